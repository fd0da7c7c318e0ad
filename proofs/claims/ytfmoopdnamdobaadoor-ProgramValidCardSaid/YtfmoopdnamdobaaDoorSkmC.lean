import Derived.Test.YtfmoopdnamdobaaDoorSkmB
import Derived.Laws.BytesArg
import Derived.OrdersIn
import Derived.TacticsIn
import Derived.OwnWalkIn
namespace Go.Skm
section
variable {P:Program} {T:Tab} {w0:Base} {Pr M0 M:Nat→Prop} {β:Nat→Option (Nat × Nat)} {st:St} {a:Act} {w:World} {d:Option Nat}
end
end Go.Skm
namespace Go.Skm
section
variable {P:Program} {T:Tab} {w0:Base} {Pr M0 M:Nat→Prop} {β:Nat→Option (Nat × Nat)} {st:St} {a:Act} {w:World} {d:Option Nat}
theorem Qw {h : Nat → Option aJ} {fn : Fn} {first caps : List AV} {cf cc : Array Value} (hf : lV w M β h first cf.toList) (hc : lV w M β h caps cc.toList) :
    aj P w M β h (zN fn first caps) (Instr.makeFunc fn cf cc):=by
  unfold zN
  split
  · rename_i f
    have e1:cf=#[]:=by
     have:=hf.1
     simp at this
     simpa using this.symm
    subst e1
    split
    · rename_i vs hp
      have e2:=rG hp
      subst e2
      refine aj.ret (c:=.func (.func f) #[] cc) (.p _ _ (.fn f vs cc (by have:=hc.1;simpa using this.symm) fun i c hi=>?_)) (by simp[Instr.makeFunc])
      have hlt:i<cc.size:=by
       have:=hc.1
       have h2:=(qLa.1 hi).1
       simp at this;omega
      have:=hc.2 i (.p c) (cc.getD i undef) (by simp[hi]) (by simpa using getD_some hlt)
      cases this;assumption
    · refine aj.chk fun _=>aj.ret (c:=.func (.func f) #[] cc) (.fn f caps cc (by have:=hc.1;simpa using this.symm) fun i c hi=>?_) (by simp[Instr.makeFunc])
      have hlt:i<cc.size:=by
       have:=hc.1
       have h2:=(qLa.1 hi).1
       simp at this;omega
      exact hc.2 i c (cc.getD i undef) hi (by simpa using getD_some hlt)
  · exact aj.fail
theorem ZH {src dst e : TypeId} (hs : P.underlying src = some (.slice e)) (hd : P.underlying dst = some .string) (he : P.underlying e = some (.int .u8)) {ys : List PV} {m l cap : Nat} {base : Option Addr}
    (h:LK P w M false [.int .u8] m ys (.slice base l cap)):(convert src dst (.slice base l cap)).run P w=.ok (.string (bytesOf ys)) w:=by
  obtain⟨q1,q2,q3,q4⟩:=h
  have hm:m=l:=by
   simp[Builtin.lenOf]at q1;exact q1.symm
  subst hm
  obtain⟨C,c1,c2,c3⟩:=q4 m (Nat.le_refl m)
  rw[run_convert_bytes_string w src dst e base m cap hs he hd]
  have hk:∀ (i:Nat) (y:PV),ys[i]?=some y→y=.int .u8 y.toInt∧C[i]?=some (.int .u8 y.toInt):=by
   intro i y hy
   have hi:=(qLa.1 hy).1
   have hq:=q3 y (qLe hy)
   have e1:y=.int .u8 y.toInt:=by
    cases y<;>simp[au,kindOk]at hq
    subst hq;rfl
   have hc:=c3 i y 0 (.int .u8 y.toInt) (by omega) hy (by rw[e1];rfl)
   simp only[List.length_cons,List.length_nil,Nat.zero_add,Nat.mul_one,Nat.add_zero]at hc
   have hsz:i<C.size:=by rw[c2];simp;omega
   refine⟨e1,?_⟩
   rw[qAd hsz]
   have e2:C.getD i undef=C[i]:=by simp[Array.getD,hsz]
   rw[e2]at hc
   cases hc2:C[i]<;>rw[hc2]at hc<;>cases hc
   rfl
  have hC:C=((ys.map PV.toInt).map (Value.int .u8)).toArray:=by
   apply Array.ext_getElem?
   intro i
   conv=>rhs;rw[List.getElem?_toArray,List.getElem?_map,List.getElem?_map]
   cases hy:ys[i]? with
   | none =>
    have:=List.getElem?_eq_none_iff.1 hy
    rw[Array.getElem?_eq_none (by rw[c2];simp;omega)];rfl
   | some y=>rw[(hk i y hy).2];rfl
  cases base with
  | none =>
   simp only[Builtin.firstCells,Sem.run_pure]at c1
   cases c1
   have:ys=[]:=by
    cases ys with
    | nil=>rfl
    | cons y ys=>simp at c2;simp at q2;omega
   subst this
   rfl
  | some ad =>
   simp only[Builtin.firstCells,List.length_cons,List.length_nil,Nat.zero_add,Nat.mul_one]at c1
   rw[hC]at c1
   rw[run_bytesToString w ad m cap (ys.map PV.toInt) c1,foldl_push_bytes]
   congr 1
   simp[bytesOf,ByteArray.empty,ByteArray.emptyWithCapacity,Function.comp_def]
   rfl
theorem ZI {h:Nat→Option aJ} {x:AV} {c:Value} (hx:AR w M β h x c) (hi:adb x=true):∃ base l cap,c=.slice base l cap:=by
 cases hx<;>simp[adb]at hi
 · rename_i v hv
   cases v<;>simp at hi
   cases hv<;>exact⟨_,_,_,rfl⟩
 · exact⟨_,_,_,rfl⟩
 · exact⟨_,_,_,rfl⟩
theorem SS (ok : bJ P T) (r : Rel w0 Pr M0 M β st a w) {h' : Nat → Option aJ} (hsub : ∀ s b,h' s = some b → look st.heap s = some b) {src dst : TypeId} {x : AV} {c : Value}
    (hx:AR w M β (look st.heap) x c):aO P w0 Pr M0 β st a w d (BK T h' d src dst x) (do pure (.value (← convert src dst c))):=by
  unfold BK
  split
  · rename_i k n
    rw[hx.DY]
    split
    · rename_i ds j hs hd
      have hs:=ok.und hs
      have hd:=ok.und hd
      refine aO.Qu r (aj.ret (.int _ _) ?_)
      simp only[convert,Sem.run_bind,aX hs,aX hd,qRa]
      cases ds<;>simp[Conv.intToInt]
    · exact aO.fail
  · split
    · rename_i e hs hd
      have hs:=ok.und hs
      have hd:=ok.und hd
      split
      · rename_i s2 m ys he hsrc
        have he:=ok.und he
        refine aO.chk fun hb=>?_
        rw[qBa]at hb
        obtain⟨base,l,cap,rfl⟩:=ZI hx hb.2
        have hsr:=BN (P:=P) r hsub hx hsrc hb.1
        refine aO.Qu r (aj.ret (.str _) ?_)
        exact ZH hs hd he hsr
      · exact aO.fail
    · exact aO.fail
end
end Go.Skm
namespace Go.Skm
def iH (gl:Option (List (Nat × Obj))) (a b:Nat):Prop:=gl=none→a≤b
theorem iH.refl (gl:Option (List (Nat × Obj))) (a:Nat):iH gl a a:=fun _=>Nat.le_refl _
theorem iH.trans {gl:Option (List (Nat × Obj))} {a b c:Nat} (h:iH gl a b) (k:iH gl b c):iH gl a c:=fun e=>Nat.le_trans (h e) (k e)
inductive qZ (T:Tab) (w:World) (M:Nat→Prop) (β:Nat→Option (Nat × Nat)) (h:Nat→Option aJ):dO→TypeId→AV→Value→Option (Nat × Nat)→Prop
 | deep (t:TypeId) (x:PV) (c:Value) (hs:au (ay T t).1 (ay T t).2 x=true) (hv:VR w M x c):qZ T w M β h .deep t (.p x) c none
 | fresh (t e : TypeId) (xs : List PV) (c : Value) (p : Option (Nat × Nat)) (hu : und T t = some (.slice e))
     (hb:BR w M (fun _=>p) (fun _=>some (.arr (ay T e).1 (ay T e).2 xs)) 0 (.arr (ay T e).1 (ay T e).2 xs))
     (hv:AR w M (fun _=>p) (fun _=>some (.arr (ay T e).1 (ay T e).2 xs)) (.slice 0 (ay T e).2.length 0 xs.length) c) :
     qZ T w M β h .fresh t (.fresh (ay T e).1 (ay T e).2 xs) c p
 | alias (j : Nat) (t e : TypeId) (off len : Nat) (c : Value) (hu : und T t = some (.slice e))
     (hv:AR w M β h (.slice (ah+j) (ay T e).2.length off len) c):qZ T w M β h (.alias j) t (.slice (ah+j) (ay T e).2.length off len) c none
 | func (g:Nat) (qs:List (Bool × List Kd)) (t:TypeId) (cs:List PV) (c:Value) (hs:zI qs cs=true) (hv:VR w M (.fn g cs) c):qZ T w M β h (.func g qs) t (.p (.fn g cs)) c none
 | wP (g:Nat) (qs:List (Bool × List Kd)) (t:TypeId) (cs:List PV) (c:Value) (hs:zI qs cs=true) (hv:VR w M (.fn g cs) c):qZ T w M β h (.wP g qs) t (.p (.fn g cs)) c none
 | Gg (g:Nat) (qs:List (Bool × List Kd)) (t:TypeId):qZ T w M β h (.wP g qs) t (.p .nH) .nilFunc none
 | Js (t:TypeId):qZ T w M β h .Js t (.p .nH) .nilFunc none
 | Bv (g:Nat) (t:TypeId) (cs:List PV) (c:Value) (hv:VR w M (.fn g cs) c):qZ T w M β h .Bv t (.p (.fn g cs)) c none
 | DF (t : TypeId) (Wu ks : List Kd) (a : Bool) (ls : List Kd) (ys : List PV) (xs : List PV) (vs : Array Value) (p : Option (Nat × Nat)) (hsh : ay T t = (true,Wu)) (hla : qC Wu = some (ks,.slice a ls))
     (hk:bC ks ys=true) (hn:vs.size=ys.length+1) (hv:∀ (i:Nat) (c:PV),ys[i]?=some c→VR w M c (vs.getD i undef))
     (hb:BR w M (fun _=>p) (fun _=>some (.arr a ls xs)) 0 (.arr a ls xs))
     (hl:AR w M (fun _=>p) (fun _=>some (.arr a ls xs)) (.slice 0 ls.length 0 xs.length) (vs.getD ys.length undef)) :
     qZ T w M β h .DF t (.agg (ys.map .p++[.fresh a ls xs])) (.agg vs) p
inductive sD (T:Tab) (w:World) (M:Nat→Prop) (β:Nat→Option (Nat × Nat)) (h:Nat→Option aJ):List dO→List TypeId→List AV→List Value→List (Option (Nat × Nat))→Prop
 | nil (ms:List dO):sD T w M β h ms [] [] [] []
 | cons (ms : List dO) (t : TypeId) (ts : List TypeId) (v : AV) (vs : List AV) (c : Value) (cs : List Value) (p : Option (Nat × Nat)) (ps : List (Option (Nat × Nat)))
     (h1:qZ T w M β h (ms.headD .deep) t v c p) (h2:sD T w M β h ms.tail ts vs cs ps)
     (h3:∀ b o o',p=some (b,o)→some (b,o') ∉ ps):sD T w M β h ms (t::ts) (v::vs) (c::cs) (p::ps)
def wV:List Value→Value
 | [c]=>c
 | cs=>.tuple cs.toArray
structure zi (gl:Option (List (Nat × Obj))) (T:Tab) (fi:FI) (w:World) (M:Nat→Prop) (β:Nat→Option (Nat × Nat)) (bl:List aJ) (rs:List AV) (pG:List aJ) (w':World) (M':Nat→Prop) (cs:List Value) (ps:List (Option (Nat × Nat))):Prop where
 res:sD T w' M' β (look (dM 0 pG)) fi.cfg.rets fi.fn.resultTypes.toList rs cs ps
 own:∀ b o,some (b,o)∈ps→¬ M' b∧b<w'.heap.size∧w.heap.size≤b
 res2:fi.cfg.DR=false→fi.cfg.shares=false→∃ M2:Nat→Prop,(∀ b,M2 b→M' b∧w.heap.size≤b)∧sD T w' M2 β (look (dM 0 pG)) fi.cfg.rets fi.fn.resultTypes.toList rs cs ps
 fB:∀ b,M b→M' b
 jQ:∀ b,M' b→M b∨w.heap.size≤b
 mlt:∀ b,M' b→b<w'.heap.size
 keep:∀ b,b<w.heap.size→(∀ i o,i<bl.length→β (ah+i)≠some (b,o))→w'.heap[b]?=w.heap[b]?
 room:∀ b n,b<w.heap.size→Room w b n→Room w' b n
 size:w.heap.size≤w'.heap.size
 os:w'.os=w.os
 tape:w'.tape=w.tape
 output:w'.output=w.output
 drawn:iH gl w.drawn w'.drawn
 len:pG.length=bl.length
 blk:∀ i b0 b1,bl[i]?=some b0→pG[i]?=some b1→BR w' M' β (look (dM 0 pG)) (ah+i) b1∧Like b0 b1∧backOk b0 b1=true∧dS b1=true
structure tX (w:World) (M:Nat→Prop) (β:Nat→Option (Nat × Nat)) (args:List AV) (bl:List aJ) (aF:Array Value):Prop where
 num:aF.size=args.length
 args:∀ i v,args[i]?=some v→AR w M β (look (dM 0 bl)) v (aF.getD i undef)
 blk:∀ i b0,bl[i]?=some b0→BR w M β (look (dM 0 bl)) (ah+i) b0
 own:∀ i b o,i<bl.length→β (ah+i)=some (b,o)→¬ M b∧b<w.heap.size
 inj:∀ i j b o o',i<bl.length→j<bl.length→β (ah+i)=some (b,o)→β (ah+j)=some (b,o')→i=j
 fB:∀ b,M b→b<w.heap.size
structure Qx (keep:Bool) (w:World) (M:Nat→Prop) (β:Nat→Option (Nat × Nat)) (args:List AV) (bl:List aJ) (aF:Array Value):Prop where
 num:aF.size=args.length
 args:∀ i v,args[i]?=some v→AR w M β (look (jd keep bl)) v (aF.getD i undef)
 blk:∀ s b,look (jd keep bl) s=some b→BR w M β (look (jd keep bl)) s b
 own:∀ s b o,(look (jd keep bl) s).isSome=true→β s=some (b,o)→¬ M b∧b<w.heap.size
 inj:∀ s s' b o o',(look (jd keep bl) s).isSome=true→(look (jd keep bl) s').isSome=true→β s=some (b,o)→β s'=some (b,o')→s=s'
 fB:∀ b,M b→b<w.heap.size
structure Qy (gl:Option (List (Nat × Obj))) (T:Tab) (fi:FI) (w:World) (M:Nat→Prop) (β:Nat→Option (Nat × Nat)) (a:Bool) (ks:List Kd) (xs:List PV) (rs:List AV) (pG:List aJ) (w':World) (M':Nat→Prop) (cs:List Value):Prop where
 res:∃ β' h' ps,sD T w' M' β' h' fi.cfg.rets fi.fn.resultTypes.toList rs cs ps∧∀ p∈ps,p=none
 fB:∀ b,M b→M' b
 jQ:∀ b,M' b→M b∨w.heap.size≤b∨∃ o,β (bV fi.cfg.vkeep)=some (b,o)
 mlt:∀ b,M' b→b<w'.heap.size
 keep:∀ b,b<w.heap.size→(∀ o,β ah≠some (b,o))→(∀ o,β (bV fi.cfg.vkeep)≠some (b,o))→w'.heap[b]?=w.heap[b]?
 size:w.heap.size≤w'.heap.size
 os:w'.os=w.os
 tape:w'.tape=w.tape
 output:w'.output=w.output
 drawn:iH gl w.drawn w'.drawn
 back:∃ off len ys bb bo C e fr p,pG=[.box [.slice (bV fi.cfg.vkeep) ks.length off len],.arr a ks ys]∧β ah=some (bb,bo)∧¬ M' bb∧w'.heap[bb]?=some (.cells C e fr)∧bo+1≤C.size∧Open C fr ∧
  AR w' M' (fun _=>p) (fun _=>some (.arr a ks ys)) (.slice 0 ks.length off len) (C.getD bo undef)∧BR w' M' (fun _=>p) (fun _=>some (.arr a ks ys)) 0 (.arr a ks ys) ∧
  (∀ b o,p=some (b,o)→¬ M' b∧b<w'.heap.size∧b≠bb∧(w.heap.size≤b∨∃ o',β (bV fi.cfg.vkeep)=some (b,o'))) ∧
  (fi.cfg.vkeep=true→p=β (bV true)∧xs.length≤ys.length∧∀ b o n,p=some (b,o)→Room w b n→Room w' b n)
structure fZ (P:Program) (T:Tab) (gl:Option (List (Nat × Obj))) (C:aA):Prop where
 plain:∀ f fi args bl rs pG,bI T.funcs f=some fi→(∀ b∈bl,dS b=true)→C f args bl=some (rs,pG)→(∃ c,fi.fn.body=some c) ∧
  ∀ (w:World) (M:Nat→Prop) (β:Nat→Option (Nat × Nat)) (aF:Array Value),(∀ p∈gl.getD [],M p.1∧w.heap[p.1]?=some p.2)→tX w M β args bl aF →
   Calls P f aF w fun e w'=>∃ cs ps M',e=.returned (wV cs)∧zi gl T fi w M β bl rs pG w' M' cs ps
 var:∀ f fi args z off len a ks xs rs pG,bI T.funcs f=some fi→fi.cfg.vcall=true→C f args [.box [.slice (bV fi.cfg.vkeep) z off len],.arr a ks xs]=some (rs,pG)→(∃ c,fi.fn.body=some c) ∧
  ∀ (w:World) (M:Nat→Prop) (β:Nat→Option (Nat × Nat)) (aF:Array Value),(∀ p∈gl.getD [],M p.1∧w.heap[p.1]?=some p.2)→Qx fi.cfg.vkeep w M β args [.box [.slice (bV fi.cfg.vkeep) z off len],.arr a ks xs] aF →
   Calls P f aF w fun e w'=>∃ cs M',e=.returned (wV cs)∧Qy gl T fi w M β a ks xs rs pG w' M' cs
 glob:∀ w:World,(∀ p∈gl.getD [],w.heap[p.1]?=some p.2)→T.glob gl.isSome w
theorem XK {bl:List aJ}:∀ (k i:Nat),look (dM k bl) (ah+(k+i))=bl[i]?:=by
 induction bl with
 | nil=>intro k i;simp[dM,look]
 | cons b r ih =>
  intro k i
  cases i with
  | zero=>simp[dM,look]
  | succ i =>
   have:(ah+k==ah+(k+(i+1)))=false:=by simp
   simp only[dM,look,this,cond_false]
   rw[show k+(i+1)=(k+1)+i from by omega,ih]
   simp
theorem vT {bl:List aJ} (i:Nat):look (dM 0 bl) (ah+i)=bl[i]?:=by
 have:=XK (bl:=bl) 0 i
 rwa[Nat.zero_add]at this
theorem SV:∀ {bl:List aJ} {k s:Nat} {b:aJ},look (dM k bl) s=some b→∃ i,i<bl.length∧s=ah+(k+i)
 | [],k,s,b,h=>by simp[dM,look]at h
 | x::r,k,s,b,h=>by
  simp only[dM,look]at h
  cases he:ah+k==s with
  | true=>exact⟨0,by simp,(by simpa using he:ah+k=s).symm⟩
  | false =>
   rw[he]at h
   obtain⟨i,h1,h2⟩:=SV h
   exact⟨i+1,by simpa using h1,by omega⟩
theorem Dk {bl:List aJ} {s:Nat} {b:aJ} (h:look (dM 0 bl) s=some b):∃ i,i<bl.length∧s=ah+i∧bl[i]?=some b:=by
 obtain⟨i,h1,h2⟩:=SV h
 rw[Nat.zero_add]at h2
 subst h2
 exact⟨i,h1,rfl,by rw[← vT];exact h⟩
theorem VR.SX {w w':World} {M M':Nat→Prop} {k:Kd} {x:PV} {c:Value} (hk:k.flat=true) (ho:kindOk k x=true) (h:VR w M x c):VR w' M' x c:=by
 cases k<;>simp[Kd.flat]at hk<;>cases x<;>simp[kindOk]at ho<;>cases h<;>constructor
theorem VR.flat {w w':World} {M M':Nat→Prop} {a:Bool} {ks:List Kd} {x:PV} {c:Value} (hk:ks.all Kd.flat=true) (ho:au a ks x=true) (h:VR w M x c):VR w' M' x c:=by
 have hall:∀ (j:Nat) (k:Kd),ks[j]?=some k→k.flat=true:=fun j k hj=>List.all_eq_true.1 hk k (qLe hj)
 cases a with
 | true =>
  cases h with
  | agg cs vs hn hl hc =>
   have hko:=fH (lJ ho)
   refine .agg cs vs hn hl fun i y hy=>?_
   have hi:i<ks.length:=by
    have:=(qLa.1 hy).1
    have e:=hko.1
    simp only[PV.cells]at e
    omega
   exact(hc i y hy).SX (hall i ks[i] (by simp)) (hko.2 i ks[i] y (by simp) hy)
  | _=>simp[au]at ho
 | false =>
  match ks,ho,hall with
  | [k],ho,hall=>exact h.SX (hall 0 k rfl) (by simpa [au] using ho)
  | [],ho,_=>simp[au]at ho
  | _::_::_,ho,_=>simp[au]at ho
theorem VR.written {w:World} {M:Nat→Prop} {ks:List Kd} {x:PV} {c:Value} (ho:au true ks x=true) (h:VR w M x c):VR w M (.agg (dY ks x 0)) c:=by
 cases h with
 | agg cs vs hn hl hc =>
  have hko:=fH (lJ ho)
  simp only[PV.cells]at hko
  have hlen:(dY ks (.agg cs) 0).length=ks.length:=by
   have:∀ (ks:List Kd) (x:PV) (o:Nat),(dY ks x o).length=ks.length:=by
    intro ks
    induction ks with
    | nil=>intro x o;rfl
    | cons k r ih=>intro x o;simp[dY,ih]
   exact this _ _ _
  have hget:∀ (j:Nat) (y:PV),(dY ks (.agg cs) 0)[j]?=some y→∃ k z,ks[j]?=some k∧cs[j]?=some z∧y=eta k z:=by
   intro j y hy
   rw[oQ]at hy
   cases hk:ks[j]? with
   | none=>rw[hk]at hy;cases hy
   | some k =>
    rw[hk]at hy
    simp only[Option.map_some,qOa]at hy
    have hj:j<cs.length:=by
     have:=(qLa.1 hk).1
     omega
    refine⟨k,cs[j],rfl,by simp,?_⟩
    rw[← hy]
    simp[PV.cell,List.getD,hj]
  refine .agg _ vs (by rw[hlen,hn];exact hko.1.symm) (fun y hy=>?_) fun j y hy=>?_
  · obtain⟨j,hj⟩:=List.mem_iff_getElem?.1 hy
    obtain⟨k,z,h1,h2,rfl⟩:=hget j y hj
    exact F8 (hko.2 j k z h1 h2)
  · obtain⟨k,z,h1,h2,rfl⟩:=hget j y hy
    exact vJ (hko.2 j k z h1 h2) (hc j z h2)
 | _=>simp[au]at ho
end Go.Skm
namespace Go.Skm
abbrev Ju:=Nat × aJ × Option (Nat × Nat)
def Aw (l:List Ju):List (Nat × aJ):=l.map fun x=>(x.1,x.2.1)
def overlay (β:Nat→Option (Nat × Nat)):List Ju→Nat→Option (Nat × Nat)
 | []=>β
 | (k,_,p)::r=>overlay (fun x=>if x=k then p else β x) r
theorem wW {s:Nat}:∀ {l:List Ju} {β:Nat→Option (Nat × Nat)},(∀ x∈l,x.1≠s)→overlay β l s=β s
 | [],_,_=>rfl
 | (k,b,p)::r,β,h=>by
  simp only[overlay]
  rw[wW fun x hx=>h x (by simp[hx])]
  exact if_neg fun e=>h (k,b,p) (by simp) e.symm
theorem LP {x:Ju}:∀ {l:List Ju} {β:Nat→Option (Nat × Nat)},l.Pairwise (fun x y=>x.1≠y.1)→x∈l→overlay β l x.1=x.2.2
 | [],_,_,h=>by simp at h
 | (k,b,p)::r,β,hd,h=>by
  simp only[overlay]
  rw[List.pairwise_cons]at hd
  rcases List.mem_cons.1 h with rfl | h
  · rw[wW fun y hy=>(hd.1 y hy).symm];simp
  · exact LP hd.2 h
theorem EM {s:Nat}:∀ {l:List Ju} {hp:Heap},(∀ x∈l,x.1≠s)→look (dZ hp (Aw l)) s=look hp s
 | [],_,_=>rfl
 | (k,b,p)::r,hp,h=>by
  show look (dZ (put hp k b) (Aw r)) s=_
  rw[EM fun x hx=>h x (by simp[hx]),aZ]
  exact if_neg fun e=>h (k,b,p) (by simp) e.symm
theorem OW {x:Ju}:∀ {l:List Ju} {hp:Heap},l.Pairwise (fun x y=>x.1≠y.1)→x∈l→look (dZ hp (Aw l)) x.1=some x.2.1
 | [],_,_,h=>by simp at h
 | (k,b,p)::r,hp,hd,h=>by
  show look (dZ (put hp k b) (Aw r)) x.1=_
  rw[List.pairwise_cons]at hd
  rcases List.mem_cons.1 h with rfl | h
  · rw[EM fun y hy=>(hd.1 y hy).symm,aZ];simp
  · exact OW hd.2 h
section
variable {w0:Base} {Pr M0 M:Nat→Prop} {β:Nat→Option (Nat × Nat)} {st:St} {a:Act} {w:World}
theorem BR.LQ {w:World} {M:Nat→Prop} {β β':Nat→Option (Nat × Nat)} {h h':Nat→Option aJ} {s s':Nat} {sa:Bool} {ks:List Kd} {xs:List PV} (hb:BR w M β h s (.arr sa ks xs)) (e:β' s'=β s):BR w M β' h' s' (.arr sa ks xs):=by
 cases hb with
 | gY=>exact .gY _ _
 | arr _ _ _ b o C e' fr g1 g2 g3 g4 g5 g6=>exact .arr _ _ _ b o C e' fr (e.trans g1) g2 g3 g4 g5 g6
theorem AR.jv {w:World} {M M':Nat→Prop} {β β':Nat→Option (Nat × Nat)} {h h':Nat→Option aJ} {s s' z off len:Nat} {c:Value} {blk:aJ} (hv:AR w M β h (.slice s z off len) c) (e1:h s=some blk) (e2:h' s'=some blk) (e3:β' s'=β s):AR w M' β' h' (.slice s' z off len) c:=by
 cases hv with
 | slice _ _ _ a ks xs b o cap hs hl hb hcap hr=>rw[hs]at e1;cases e1;exact .slice s' off len a ks xs b o cap e2 hl (e3.trans hb) hcap hr
 | sliceE _ _ a ks xs base hs hl=>rw[hs]at e1;cases e1;exact .sliceE s' off a ks xs base e2 hl
theorem Rel.lays : ∀ (l : List Ju) {β : Nat → Option (Nat × Nat)} {st : St},Rel w0 Pr M0 M β st a w → l.Pairwise (fun x y => x.1 ≠ y.1) → (∀ x ∈ l,look st.heap x.1 = none) →
    l.Pairwise (fun x y=>∀ b o o',x.2.2=some (b,o)→y.2.2≠some (b,o')) →
    (∀ x∈l,∀ b o,x.2.2=some (b,o)→¬ M b∧b<w.heap.size∧w0.heap.size≤b∧(∀ s' o',(look st.heap s').isSome=true→β s'≠some (b,o'))) →
    (∀ x∈l,∃ sa ks xs,x.2.1=.arr sa ks xs∧BR w M (fun _=>x.2.2) (fun _=>none) 0 x.2.1) →
    Rel w0 Pr M0 M (overlay β l) { st with heap:=dZ st.heap (Aw l) } a w
  | [],β,st,r,_,_,_,_,_=>r
  | (k,blk,p)::l,β,st,r,hd,hn,hq,ho,hb=>by
   rw[List.pairwise_cons]at hd hq
   have h0:=hn (k,blk,p) (by simp)
   obtain⟨sa,ks,xs,e,hb0⟩:=hb (k,blk,p) (by simp)
   simp only at e hb0 h0
   have r1:=r.lay (s:=k) (blk:=blk) h0 (p:=p) (fun b o e=>by
    obtain⟨g1,g2,g3,g4⟩:=ho (k,blk,p) (by simp) b o e
    exact⟨g1,g2,⟨.inl g3,.inl (Nat.le_trans w0.le' g3)⟩,g4⟩) (by subst e;exact hb0.LQ (by simp))
   refine Rel.lays l r1 hd.2 (fun x hx=>?_) hq.2 (fun x hx b o e=>?_) (fun x hx=>hb x (by simp[hx]))
   · show look (put st.heap k blk) x.1=none
     rw[aZ,if_neg (hd.1 x hx).symm]
     exact hn x (by simp[hx])
   · obtain⟨g1,g2,g3,g4⟩:=ho x (by simp[hx]) b o e
     refine⟨g1,g2,g3,fun s' o' hs' pJ=>?_⟩
     by_cases hk:s'=k
     · simp only[hk,if_true]at pJ
       exact hq.1 x hx b o' o pJ e
     · simp only[if_neg hk]at pJ
       have ae8:(look (put st.heap k blk) s').isSome=true:=hs'
       rw[aZ,if_neg hk]at ae8
       exact g4 s' o' ae8 pJ
theorem Rel.LU (r : Rel w0 Pr M0 M β st a w) {w' : World} {M' : Nat → Prop} {hp' : Heap} (hsz : w.heap.size ≤ w'.heap.size) (hos : w'.os = w.os) (htp : w'.tape = w.tape) (hop : w'.output = w.output)
    (hkeep:∀ b,b<w.heap.size→(M b∨(b<w0.heap.size∧¬ Pr b))→w'.heap[b]?=w.heap[b]?) (hrm:∀ b n,b<w.heap.size→((∃ s o blk,look st.heap s=some blk∧β s=some (b,o)∧ae1 blk n)∨(b<w0.n0∧Pr b))→Room w b n→Room w' b n)
    (h1:∀ b,M b→M' b) (h2:∀ b,M' b→M b∨(w.heap.size≤b∧b<w'.heap.size))
    (hnone:∀ s,look st.heap s=none→look hp' s=none)
    (hlk:∀ s blk,look st.heap s=some blk→∃ blk',look hp' s=some blk'∧((blk'=blk∧∀ b o,β s=some (b,o)→w'.heap[b]?=w.heap[b]?)∨(Like blk blk'∧BR w' M' β (look hp') s blk'))) :
    Rel w0 Pr M0 M' β { st with heap:=hp' } a w':=by
  have hM:∀ b,M b→M' b∧w'.heap[b]?=w.heap[b]?:=fun b h=>⟨h1 b h,hkeep b (r.fB b h) (.inl h)⟩
  have hlive:∀ s,(look hp' s).isSome=true→(look st.heap s).isSome=true:=fun s h=>by
   cases he:look st.heap s with
   | none=>rw[hnone s he]at h;cases h
   | some b=>rfl
  have key:∀ (v:AV) (c:Value),AR w M β (look st.heap) v c→AR w' M' β (look hp') v c:=fun v c h =>
   h.ab5 hM fun s blk _ hl=>by
    obtain⟨blk',e1,e2⟩:=hlk s blk hl
    refine⟨blk',e1,?_,rfl,fun b o n h3 ha hr=>hrm b n (r.own s b o (by rw[hl];rfl) h3).2.1 (.inl ⟨s,o,blk,hl,h3,ha⟩) hr⟩
    rcases e2 with ⟨rfl,_⟩ | ⟨h,_⟩
    · exact Like.refl _
    · exact h
  refine⟨r.lC,fun t v h=>key _ _ (r.env t v h),?_,?_,fun s s' b o o' hl hl'=>r.inj s s' b o o' (hlive s hl) (hlive s' hl'),?_,?_,fun b h=>h1 b (r.oD b h),?_,
   fun b n h3 h4 h5=>hrm b n (by have:=r.size;have:=w0.le';omega) (.inr ⟨h3,h4⟩) (r.room b n h3 h4 h5),by have:=r.size;omega,hos.trans r.os,htp.trans r.tape,hop.trans r.output,fun p hp=>⟨(hM _ (r.glob p hp).1).1,(hM _ (r.glob p hp).1).2.trans (r.glob p hp).2⟩⟩
  · intro s blk hl
    have hl':look hp' s=some blk:=hl
    cases he:look st.heap s with
    | none=>rw[hnone s he]at hl';cases hl'
    | some b0 =>
     obtain⟨blk',e1,e2⟩:=hlk s b0 he
     rw[hl']at e1;cases e1
     rcases e2 with ⟨rfl,hB⟩ | ⟨_,h⟩
     · show BR w' M' β (look hp') s _
       cases r.heap s _ he with
       | box cs b o C e fr g1 g2 g3 g4 g5 g6=>exact .box _ b o C e fr g1 (by rw[hB b o g1];exact g2) g3 g4 g5 fun j c hc=>key _ _ (g6 j c hc)
       | gY a ks=>exact .gY a ks
       | log on ys=>exact .log on ys
       | arr a ks xs b o C e fr g1 g2 g3 g4 g5 g6=>exact .arr a ks xs b o C e fr g1 (by rw[hB b o g1];exact g2) g3 g4 g5 fun i x j c hx hc=>(g6 i x j c hx hc).mono hM
       | tb t c0 c1 b C fr g1 g2 g3 g4 g5 g6 g7 g8=>exact .tb t c0 c1 b C fr g1 (by rw[hB b 0 g1];exact g2) g3 g4 g5 g6 (key _ _ g7) (key _ _ g8)
       | mp t es b o E k g1 g2 g3 g4=>exact .mp t es b o E k g1 (by rw[hB b o g1];exact g2) g3 fun i p e hi he=>⟨(g4 i p e hi he).1.mono hM,(g4 i p e hi he).2.mono hM⟩
       | EH e=>exact .EH e
       | br e xs b C fr g1 g2 g3 g4 g5 g6=>exact .br e xs b C fr g1 (by rw[hB b 0 g1];exact g2) g3 g4 g5 g6
     · exact h
  · intro s b o hl h3
    obtain⟨g1,g2,g3⟩:=r.own s b o (hlive s hl) h3
    refine⟨fun hm=>?_,by omega,g3⟩
    rcases h2 b hm with h | h
    · exact g1 h
    · omega
  · intro b h
    rcases h2 b h with h | h
    · have:=r.fB b h;omega
    · omega
  · intro b h
    rcases h2 b h with h | h
    · exact r.jQ b h
    · right;have:=r.size;have:=w0.le';exact⟨by omega,.inl (by omega)⟩
  · intro b h3 h4
    rw[hkeep b (by have:=r.size;omega) (.inr ⟨h3,h4⟩),r.keep b h3 h4]
theorem Rel.moved (r : Rel w0 Pr M0 M β st a w) {w' : World} {M' : Nat → Prop} {hp' : Heap} (hsz : w.heap.size ≤ w'.heap.size) (hos : w'.os = w.os) (htp : w'.tape = w.tape) (hop : w'.output = w.output)
    (hkeep:∀ b,b<w.heap.size→(M b∨(b<w0.heap.size∧¬ Pr b))→w'.heap[b]?=w.heap[b]?) (hrm:∀ b n,b<w.heap.size→((∃ s o,(look st.heap s).isSome=true∧β s=some (b,o))∨(b<w0.n0∧Pr b))→Room w b n→Room w' b n)
    (h1:∀ b,M b→M' b) (h2:∀ b,M' b→M b∨(w.heap.size≤b∧b<w'.heap.size))
    (hnone:∀ s,look st.heap s=none→look hp' s=none)
    (hlk:∀ s blk,look st.heap s=some blk→∃ blk',look hp' s=some blk'∧((blk'=blk∧∀ b o,β s=some (b,o)→w'.heap[b]?=w.heap[b]?)∨(Like blk blk'∧BR w' M' β (look hp') s blk'))) :
    Rel w0 Pr M0 M' β { st with heap:=hp' } a w' :=
  r.LU hsz hos htp hop hkeep (fun b n hb hc hr=>hrm b n hb (hc.imp (fun ⟨s,o,blk,h1,h2,_⟩=>⟨s,o,by rw[h1];rfl,h2⟩) id) hr) h1 h2 hnone hlk
end
end Go.Skm
namespace Go.Skm
section
variable {T:Tab}
theorem BR.ZJ {w:World} {M M':Nat→Prop} {p:Option (Nat × Nat)} {h:Nat→Option aJ} {a:Bool} {ks:List Kd} {xs:List PV} (h0:ks.all Kd.flat=true) (hb:BR w M (fun _=>p) h 0 (.arr a ks xs)):BR w M' (fun _=>p) h 0 (.arr a ks xs):=by
 cases hb with
 | gY=>exact .gY _ _
 | arr _ _ _ b o C e' fr g1 g2 g3 g4 g5 g6 =>
  refine .arr _ _ _ b o C e' fr g1 g2 g3 g4 g5 fun i x j y hx hy=>?_
  have hx':=g5 x (qLe hx)
  have hk:=fH (lJ hx')
  have hj:j<ks.length:=by
   have:=(qLa.1 hy).1
   have:=hk.1
   omega
  exact(g6 i x j y hx hy).SX (List.all_eq_true.1 h0 ks[j] (by simp)) (hk.2 j ks[j] y (by simp) hy)
theorem U6 {w w' : World} {M M' : Nat → Prop} {ks : List Kd} {ys : List PV} {vs : Array Value} (hf : ks.all Kd.flat = true) (hk : bC ks ys = true) (hv : ∀ (i : Nat) (c : PV),ys[i]? = some c → VR w M c (vs.getD i undef)) :
    ∀ (i:Nat) (c:PV),ys[i]?=some c→VR w' M' c (vs.getD i undef):=by
  intro i c hc
  have hk:=fH hk
  have hj:i<ks.length:=by
   have:=(qLa.1 hc).1
   have:=hk.1
   omega
  exact(hv i c hc).SX (List.all_eq_true.1 hf ks[i] (by simp)) (hk.2 i ks[i] c (by simp) hc)
theorem qZ.flat {w : World} {M M' : Nat → Prop} {β β' : Nat → Option (Nat × Nat)} {h h' : Nat → Option aJ} {m : dO} {t : TypeId} {v : AV} {c : Value} {p : Option (Nat × Nat)}
    (h1:qZ T w M β h m t v c p) (h0:CY T m t=true) (hm:m=.deep∨m=.fresh∨m=.DF):qZ T w M' β' h' m t v c p:=by
  cases h1 with
  | deep t x c hs hv=>exact .deep t x c hs (hv.flat h0 hs)
  | fresh t e xs c p hu hb hv =>
   simp only[CY,hu]at h0
   refine .fresh t e xs c p hu ?_ ?_
   · generalize ay T e=sh at hb h0
     obtain⟨sa,ks⟩:=sh
     simp only at hb h0 ⊢
     cases hb with
     | gY=>exact .gY _ _
     | arr _ _ _ b o C e' fr g1 g2 g3 g4 g5 g6 =>
      refine .arr _ _ _ b o C e' fr g1 g2 g3 g4 g5 fun i x j y hx hy=>?_
      have hx':=g5 x (qLe hx)
      have hk:=fH (lJ hx')
      have hj:j<ks.length:=by
       have:=(qLa.1 hy).1
       have:=hk.1
       omega
      exact(g6 i x j y hx hy).SX (List.all_eq_true.1 h0 ks[j] (by simp)) (hk.2 j ks[j] y (by simp) hy)
   · exact hv.jv rfl rfl rfl
  | DF t Wu ks a ls ys xs vs p hsh hla hk hn hv hb hl =>
   simp only[CY,hsh,hla,qBa]at h0
   exact .DF t Wu ks a ls ys xs vs p hsh hla hk hn (U6 h0.1 hk hv) (hb.ZJ h0.2) (hl.jv rfl rfl rfl)
  | alias j t e off len c hu hv=>rcases hm with h | h | h<;>cases h
  | func g qs t cs c hs hv=>rcases hm with h | h | h<;>cases h
  | wP g qs t cs c hs hv=>rcases hm with h | h | h<;>cases h
  | Gg g qs t=>rcases hm with h | h | h<;>cases h
  | Js t=>rcases hm with h | h | h<;>cases h
  | Bv g t cs c hv=>rcases hm with h | h | h<;>cases h
theorem U7 {w : World} {M : Nat → Prop} {β : Nat → Option (Nat × Nat)} {h : Nat → Option aJ} {ms : List dO} {ts : List TypeId} {rs : List AV} {cs : List Value} {ps : List (Option (Nat × Nat))}
    (hr:sD T w M β h ms ts rs cs ps) {b:Bool} (hb:IK ms rs=some b):sD T w M β h (cond b (KR ms) (UR ms)) ts rs cs ps:=by
  induction hr with
  | nil ms=>exact .nil _
  | cons ms t ts v vs c cs p ps h1 h2 h3 ih =>
   cases ms with
   | nil=>simp[IK]at hb
   | cons m ms =>
    simp only[List.headD_cons,List.tail_cons]at h1 h2 ih
    have other:IK ms vs=some b→(∀ x:Bool,(cond x (KR (m::ms)) (UR (m::ms)))=m::cond x (KR ms) (UR ms))→sD T w M β h (cond b (KR (m::ms)) (UR (m::ms))) (t::ts) (v::vs) (c::cs) (p::ps):=fun hn he=>by
     rw[he]
     exact .cons _ t ts v vs c cs p ps h1 (ih hn) h3
    cases h1 with
    | wP g qs _ cs' _ hs hv =>
     simp only[IK,List.headD_cons,AV.pv,PV.Bq,qOa]at hb
     subst hb
     exact .cons _ t ts _ vs c cs _ ps (.func g qs t cs' c hs hv) h2 h3
    | Gg g qs _ =>
     simp only[IK,List.headD_cons,AV.pv,PV.Bq,qOa]at hb
     subst hb
     exact .cons _ t ts _ vs _ cs _ ps (.Js t) h2 h3
    | deep=>exact other hb fun x=>by cases x<;>rfl
    | fresh=>exact other hb fun x=>by cases x<;>rfl
    | alias=>exact other hb fun x=>by cases x<;>rfl
    | func=>exact other hb fun x=>by cases x<;>rfl
    | Js=>exact other hb fun x=>by cases x<;>rfl
    | Bv=>exact other hb fun x=>by cases x<;>rfl
    | DF=>exact other hb fun x=>by cases x<;>rfl
theorem XL {ms : List dO} {rs : List AV} {F : List dO → DT} {α : Type} {k : Eff → Option α} {r : α} (hk : (KT ms rs F).run k = some r) :
    ∃ ms',(F ms').run k=some r∧∀ (w:World) (M:Nat→Prop) (β:Nat→Option (Nat × Nat)) (h:Nat→Option aJ) (ts:List TypeId) (cs:List Value) (ps:List (Option (Nat × Nat))),sD T w M β h ms ts rs cs ps→sD T w M β h ms' ts rs cs ps:=by
  unfold KT at hk
  cases hn:IK ms rs with
  | none=>rw[hn]at hk;exact⟨ms,hk,fun _ _ _ _ _ _ _ h=>h⟩
  | some b =>
   rw[hn]at hk
   simp only[DT.run]at hk
   refine⟨cond b (KR ms) (UR ms),?_,fun _ _ _ _ _ _ _ h=>U7 h hn⟩
   cases b<;>exact hk
section
variable {w:World} {M:Nat→Prop} {β:Nat→Option (Nat × Nat)}
theorem qZ.mono {M M':Nat→Prop} {h:Nat→Option aJ} {m:dO} {t:TypeId} {v:AV} {c:Value} {p:Option (Nat × Nat)} (hM:∀ b,M b→M' b) (hr:qZ T w M β h m t v c p):qZ T w M' β h m t v c p:=by
 have hM':∀ b,M b→M' b∧w.heap[b]?=w.heap[b]?:=fun b h=>⟨hM b h,rfl⟩
 cases hr with
 | deep _ x _ hs hv=>exact .deep t x c hs (hv.mono hM')
 | fresh _ e xs _ _ hu hb hv =>
  refine .fresh t e xs c p hu ?_ (hv.jv rfl rfl rfl)
  cases hb with
  | gY=>exact .gY _ _
  | arr _ _ _ b o C e' fr g1 g2 g3 g4 g5 g6=>exact .arr _ _ _ b o C e' fr g1 g2 g3 g4 g5 fun i x j c h1 h2=>(g6 i x j c h1 h2).mono hM'
 | func g qs _ cs _ hs hv=>exact .func g qs t cs c hs (hv.mono hM')
 | wP g qs _ cs _ hs hv=>exact .wP g qs t cs c hs (hv.mono hM')
 | Gg g qs _=>exact .Gg g qs t
 | Js _=>exact .Js t
 | Bv g _ cs _ hv=>exact .Bv g t cs c (hv.mono hM')
 | DF _ Wu ks a ls ys xs vs _ hsh hla hk hn hv hb hl =>
  refine .DF t Wu ks a ls ys xs vs p hsh hla hk hn (fun i c hc=>(hv i c hc).mono hM') ?_ (hl.jv rfl rfl rfl)
  cases hb with
  | gY=>exact .gY _ _
  | arr _ _ _ b o C e' fr g1 g2 g3 g4 g5 g6=>exact .arr _ _ _ b o C e' fr g1 g2 g3 g4 g5 fun i x j c h1 h2=>(g6 i x j c h1 h2).mono hM'
 | alias j _ e off len _ hu hv =>
  have:∃ blk,h (ah+j)=some blk:=by
   generalize (ay T e).2.length=z at hv
   cases hv with
   | slice _ _ _ a ks xs b o cap hs hl hb hcap hr=>exact⟨_,hs⟩
   | sliceE _ _ a ks xs base hs hl=>exact⟨_,hs⟩
  obtain⟨blk,hb⟩:=this
  exact .alias j t e off len c hu (hv.jv hb hb rfl)
theorem sD.mono {M M':Nat→Prop} {h:Nat→Option aJ} {ms:List dO} {ts:List TypeId} {vs:List AV} {cs:List Value} {ps:List (Option (Nat × Nat))} (hM:∀ b,M b→M' b) (hr:sD T w M β h ms ts vs cs ps):sD T w M' β h ms ts vs cs ps:=by
 induction hr with
 | nil ms=>exact .nil ms
 | cons ms t ts v vs c cs p ps h1 h2 h3 ih=>exact .cons ms t ts v vs c cs p ps (h1.mono hM) ih h3
end
theorem LV:∀ (ks:List Kd) (x:PV) (o j:Nat),(xC ks x o)[j]?=(ks[j]?).map fun k=>eta k (x.lZ (o+j))
 | [],_,_,j=>by simp[xC]
 | k::r,x,o,0=>by simp[xC]
 | k::r,x,o,j+1=>by
  simp only[xC,List.getElem?_cons_succ,LV r x (o+1) j]
  rw[show o+1+j=o+(j+1) from by omega]
theorem XM {w:World} {M:Nat→Prop} {q:Bool × List Kd} {v:PV} {c:Value} (ho:SB q v=true) (h:VR w M v c):VR w M (Qa q v) c:=by
 obtain⟨b,ks⟩:=q
 cases b with
 | false =>
  match ks,ho with
  | [k],ho=>exact vJ ho h
  | [],ho=>simp[SB]at ho
  | _::_::_,ho=>simp[SB]at ho
 | true =>
  cases h with
  | ref cs b o f hM hl hc hv =>
   have hk:=fH (show bC ks cs=true from ho)
   have hget:∀ (j:Nat) (y:PV),(xC ks (.ref cs) 0)[j]?=some y→∃ k z,ks[j]?=some k∧cs[j]?=some z∧y=eta k z:=by
    intro j y hy
    rw[LV]at hy
    cases hkj:ks[j]? with
    | none=>rw[hkj]at hy;cases hy
    | some k =>
     rw[hkj]at hy
     simp only[Option.map_some,qOa,Nat.zero_add]at hy
     have hj:j<cs.length:=by
      have:=(qLa.1 hkj).1
      have:=hk.1
      omega
     refine⟨k,cs[j],rfl,by simp,?_⟩
     rw[← hy];simp[PV.lZ,List.getD,hj]
   refine .ref _ b o f hM (fun y hy=>?_) (fun j y hy=>?_) fun j y hy=>?_
   · obtain⟨j,hj⟩:=List.mem_iff_getElem?.1 hy
     obtain⟨k,z,h1,h2,rfl⟩:=hget j y hj
     exact F8 (hk.2 j k z h1 h2)
   · obtain⟨k,z,h1,h2,rfl⟩:=hget j y hy
     exact hc j z h2
   · obtain⟨k,z,h1,h2,rfl⟩:=hget j y hy
     exact vJ (hk.2 j k z h1 h2) (hv j z h2)
  | _=>cases ho
theorem LW:∀ {qs:List (Bool × List Kd)} {vs:List PV},zI qs vs=true→qs.length=vs.length∧∀ (j:Nat) (q:Bool × List Kd) (v:PV),qs[j]?=some q→vs[j]?=some v→SB q v=true
 | [],[],_=>⟨rfl,fun j q v h=>by simp at h⟩
 | q::qs,v::vs,h=>by
  simp[zI]at h
  obtain⟨h1,h2⟩:=LW h.2
  refine⟨by simp[h1],fun j q' v' hq hv=>?_⟩
  cases j with
  | zero=>simp at hq hv;subst hq hv;exact h.1
  | succ j=>simp at hq hv;exact h2 j q' v' hq hv
 | [],_::_,h | _::_,[],h=>by simp[zI]at h
theorem IX:∀ (qs:List (Bool × List Kd)) (x:PV) (o j:Nat),(kY qs x o)[j]?=(qs[j]?).map fun q=>Qa q (x.cap (o+j))
 | [],_,_,j=>by simp[kY]
 | k::r,x,o,0=>by simp[kY]
 | k::r,x,o,j+1=>by
  simp only[kY,List.getElem?_cons_succ,IX r x (o+1) j]
  rw[show o+1+j=o+(j+1) from by omega]
theorem LX:∀ {k:Kd} {v:PV},Qo k v=true→eta k v=v:=by
 intro k v h
 cases k<;>cases v<;>simp[Qo,kindOk]at h<;>first | rfl | skip
 · subst h;rfl
 · obtain⟨rfl,h2⟩:=h
   have:=Kd.mY _ _ h2
   subst this;rfl
theorem IY:∀ {ks:List Kd} {cs:List PV} (pre:List PV),Dc ks cs=true→xC ks (.ref (pre++cs)) pre.length=cs
 | [],[],_,_=>rfl
 | [],_::_,_,h=>by simp[Dc]at h
 | _::_,[],_,h=>by simp[Dc]at h
 | k::ks,c::cs,pre,h=>by
  simp only[Dc,qBa]at h
  have ih:=IY (pre++[c]) h.2
  rw[List.append_assoc,List.singleton_append,List.length_append,List.length_singleton]at ih
  unfold xC
  rw[ih]
  have e:(PV.ref (pre++c::cs)).lZ pre.length=c:=by simp[PV.lZ,List.getD]
  rw[e,LX h.1]
theorem XO {q:Bool × List Kd} {v:PV} (h:OJ q v=true):Qa q v=v:=by
 obtain⟨b,ks⟩:=q
 cases b with
 | true =>
  cases v<;>simp[OJ]at h
  rename_i cs
  have:=IY [] h
  simp only[List.nil_append,List.length_nil]at this
  show PV.ref (xC ks (.ref cs) 0)=.ref cs
  rw[this]
 | false =>
  match ks,h with
  | [k],h=>exact LX (by simpa [OJ] using h)
  | [],h=>simp[OJ]at h
  | _::_::_,h=>simp[OJ]at h
theorem LY:∀ {qs:List (Bool × List Kd)} {cs:List PV} (g:Nat) (pre:List PV),H8 qs cs=true→kY qs (.fn g (pre++cs)) pre.length=cs
 | [],[],_,_,_=>rfl
 | [],_::_,_,_,h=>by simp[H8]at h
 | _::_,[],_,_,h=>by simp[H8]at h
 | q::qs,c::cs,g,pre,h=>by
  simp only[H8,qBa]at h
  have ih:=LY g (pre++[c]) h.2
  rw[List.append_assoc,List.singleton_append,List.length_append,List.length_singleton]at ih
  unfold kY
  rw[ih]
  have e:(PV.fn g (pre++c::cs)).cap pre.length=c:=by simp[PV.cap,List.getD]
  rw[e,XO h.1]
theorem ZK {g:Nat} {qs:List (Bool × List Kd)} {v:PV} (h:PV.isFn g qs v=true):PV.fn g (kY qs v 0)=v:=by
 cases v<;>simp[PV.isFn]at h
 rename_i f cs
 obtain⟨rfl,h2⟩:=h
 have:=LY f [] h2
 simp only[List.nil_append,List.length_nil]at this
 rw[this]
section
variable {α:Type}
theorem IZ {K:St→Option α} {x:α} {st:St} {t:Nat}:∀ {cs:List (Nat × List (Bool × List Kd))},BL cs t st K=some x→K st=some x∧∀ K':St→Option α,BL cs t st K'=K' st
 | [],h=>by simp[BL]at h
 | (g,qs)::r,h=>by
  unfold BL at h
  cases hc:((st.env.getD t .undef).isP&&PV.isFn g qs (st.env.getD t .undef).pv) with
  | false =>
   rw[hc,cond_false]at h
   obtain⟨h1,h2⟩:=IZ h
   exact⟨h1,fun K'=>by unfold BL;rw[hc,cond_false];exact h2 K'⟩
  | true =>
   have hc':=hc
   rw[qBa]at hc'
   have e1:AV.p (.fn g (kY qs (st.env.getD t .undef).pv 0))=st.env.getD t .undef:=by
    rw[ZK hc'.2]
    cases hv:st.env.getD t .undef<;>rw[hv]at hc'<;>simp[AV.isP]at hc'
    rfl
   have hlt:t<st.env.length:=by
    by_cases hl:t<st.env.length
    · exact hl
    · have:st.env.getD t .undef=.undef:=by simp[List.getD,List.getElem?_eq_none (by omega:st.env.length≤t)]
      rw[this]at hc'
      simp[AV.isP]at hc'
   have e2:st.env.set t (.p (.fn g (kY qs (st.env.getD t .undef).pv 0)))=st.env:=by
    rw[e1]
    apply List.ext_getElem?
    intro i
    rw[List.getElem?_set]
    by_cases hi:t=i
    · subst hi
      rw[if_pos rfl,if_pos hlt,qLb,qLd hlt];rfl
    · rw[if_neg hi]
   rw[hc,cond_true,e2]at h
   exact⟨h,fun K'=>by unfold BL;rw[hc,cond_true,e2]⟩
theorem iJ {K:St→Option α} {x:α}:∀ {as:List (Nat × List (Nat × List (Bool × List Kd)))} {st:St},yZ as st K=some x→K st=some x∧∀ K':St→Option α,yZ as st K'=K' st
 | [],st,h=>⟨h,fun _=>rfl⟩
 | (t,cs)::r,st,h=>by
  unfold yZ at h
  obtain⟨h1,h2⟩:=IZ h
  obtain⟨h3,h4⟩:=iJ h1
  exact⟨h3,fun K'=>by unfold yZ;rw[h2,h4]⟩
end
theorem BQ:∀ (ks:List (Bool × List Kd)) (x:PV) (o:Nat),(kY ks x o).length=ks.length
 | [],_,_=>rfl
 | k::r,x,o=>by simp[kY,BQ r]
theorem VR.Qz {w:World} {M:Nat→Prop} {g:Nat} {qs:List (Bool × List Kd)} {cs:List PV} {c:Value} (ho:zI qs cs=true) (h:VR w M (.fn g cs) c):VR w M (.fn g (kY qs (.fn g cs) 0)) c:=by
 cases h with
 | fn _ _ vs hn hc =>
  have hk:=LW ho
  refine .fn g _ vs (by rw[hn,BQ];exact hk.1.symm) fun i y hy=>?_
  rw[IX]at hy
  cases hq:qs[i]? with
  | none=>rw[hq]at hy;cases hy
  | some q =>
   rw[hq]at hy
   simp only[Option.map_some,qOa,Nat.zero_add]at hy
   have hi:i<cs.length:=by
    have:=(qLa.1 hq).1
    have:=hk.1
    omega
   have e:(PV.fn g cs).cap i=cs[i]:=by simp[PV.cap,List.getD,hi]
   rw[← hy,e]
   exact XM (hk.2 i q cs[i] hq (by simp)) (hc i cs[i] (by simp))
theorem kF:∀ (ks:List Kd) (x:PV) (o:Nat),(dY ks x o).length=ks.length
 | [],_,_=>rfl
 | k::ks,x,o=>by rw[dY,List.length_cons,kF ks x (o+1),List.length_cons]
theorem U8 {w : World} {M : Nat → Prop} {βa : Nat → Option (Nat × Nat)} {ha : Nat → Option aJ} {d : Nat} {ss : List Nat} {ms : List dO} {ts : List TypeId} {rs : List AV} {cs : List Value} {ps : List (Option (Nat × Nat))}
    (hr:sD T w M βa ha ms ts rs cs ps):∀ {i:Nat} {xs:List AV} {bs:List (Nat × aJ)},tH T d ss i ms ts rs=some (xs,bs)→∃ l:List Ju,bs=Aw l∧(∀ x∈l,∃ j,i≤j∧x.1=d+1000*j)∧l.Pairwise (fun x y=>x.1≠y.1) ∧
      l.Pairwise (fun x y=>∀ b o o',x.2.2=some (b,o)→y.2.2≠some (b,o'))∧(∀ x∈l,∀ b o,x.2.2=some (b,o)→some (b,o)∈ps) ∧
      (∀ x∈l,∃ sa ks ys,x.2.1=.arr sa ks ys∧BR w M (fun _=>x.2.2) (fun _=>none) 0 x.2.1)∧xs.length=cs.length ∧
      ∀ (h:Nat→Option aJ) (β:Nat→Option (Nat × Nat)),(∀ x∈l,h x.1=some x.2.1∧β x.1=x.2.2)→(∀ j s blk,ss[j]?=some s→ha (ah+j)=some blk→h s=some blk∧β s=βa (ah+j)) →
       ∀ (k:Nat) (v:AV),xs[k]?=some v→∃ c,cs[k]?=some c∧AR w M β h v c:=by
  induction hr with
  | nil ms =>
   intro i xs bs h
   simp only[tH,qOa,Prod.mk.injEq]at h
   obtain⟨rfl,rfl⟩:=h
   exact⟨[],rfl,by simp,.nil,.nil,by simp,by simp,rfl,fun _ _ _ _ k v hk=>by simp at hk⟩
  | cons ms t ts v vs c cs p ps h1 h2 h3 ih =>
   intro i xs bs h
   simp only[tH,List.headD_cons,List.tail_cons]at h
   split at h
   · rename_i x1 b1 xr br e1 e2
     simp only[qOa,Prod.mk.injEq]at h
     obtain⟨rfl,rfl⟩:=h
     obtain⟨l,q1,q2,q3,q4,q5,q6,q7,q8⟩:=ih e2
     have Dl : b1 = [] → (∀ (h : Nat → Option aJ) (β : Nat → Option (Nat × Nat)),(∀ j s blk,ss[j]? = some s → ha (ah + j) = some blk → h s = some blk ∧ β s = βa (ah + j)) → AR w M β h x1 c) →
         ∃ l:List Ju,b1++br=Aw l∧(∀ x∈l,∃ j,i≤j∧x.1=d+1000*j)∧l.Pairwise (fun x y=>x.1≠y.1) ∧
     l.Pairwise (fun x y=>∀ b o o',x.2.2=some (b,o)→y.2.2≠some (b,o'))∧(∀ x∈l,∀ b o,x.2.2=some (b,o)→some (b,o)∈p::ps) ∧
     (∀ x∈l,∃ sa ks ys,x.2.1=.arr sa ks ys∧BR w M (fun _=>x.2.2) (fun _=>none) 0 x.2.1)∧(x1::xr).length=(c::cs).length ∧
     ∀ (h:Nat→Option aJ) (β:Nat→Option (Nat × Nat)),(∀ x∈l,h x.1=some x.2.1∧β x.1=x.2.2)→(∀ j s blk,ss[j]?=some s→ha (ah+j)=some blk→h s=some blk∧β s=βa (ah+j)) →
      ∀ (k:Nat) (v:AV),(x1::xr)[k]?=some v→∃ c',(c::cs)[k]?=some c'∧AR w M β h v c':=by
      intro hb hx
      subst hb
      refine⟨l,by simpa using q1,fun x hx=>?_,q3,q4,fun x hx b o e=>by simp[q5 x hx b o e],q6,by simp[q7],fun h β g1 g2 k v hk=>?_⟩
      · obtain⟨j,hj1,hj2⟩:=q2 x hx
        exact⟨j,by omega,hj2⟩
      · cases k with
        | zero=>simp at hk;subst hk;exact⟨c,rfl,hx h β g2⟩
        | succ k=>simp at hk;simpa using q8 h β g1 g2 k v hk
     revert h1 e1
     generalize ms.headD .deep=m
     intro h1 e1
     cases h1 with
     | deep t x c hs hv =>
      simp only[xO,AV.pv]at e1
      generalize ay T t=sh at hs e1
      obtain⟨sa,ks⟩:=sh
      simp only at hs e1
      split at e1
      · rename_i ks' e
        obtain⟨rfl,rfl⟩:=Prod.mk.inj e
        simp only[qOa,Prod.mk.injEq]at e1
        obtain⟨rfl,rfl⟩:=e1
        exact Dl rfl fun _ _ _=>.p _ _ (hv.written hs)
      · rename_i k e
        obtain⟨rfl,rfl⟩:=Prod.mk.inj e
        simp only[qOa,Prod.mk.injEq]at e1
        obtain⟨rfl,rfl⟩:=e1
        exact Dl rfl fun _ _ _=>.p _ _ (vJ (by simpa [au] using hs) hv)
      · cases e1
     | func g qs t cs c hs hv =>
      simp only[xO,AV.pv,qOa,Prod.mk.injEq]at e1
      obtain⟨rfl,rfl⟩:=e1
      exact Dl rfl fun _ _ _=>.p _ _ (hv.Qz hs)
     | wP g qs t cs c hs hv=>simp[xO]at e1
     | Gg g qs t=>simp[xO]at e1
     | Js t =>
      simp only[xO,qOa,Prod.mk.injEq]at e1
      obtain⟨rfl,rfl⟩:=e1
      exact Dl rfl fun _ _ _=>.p _ _ .nH
     | Bv=>simp[xO]at e1
     | alias=>simp[xO]at e1
     | fresh t e ys c p hu hb hv =>
      simp only[xO,hu,AV.ak,qOa,Prod.mk.injEq]at e1
      obtain⟨rfl,rfl⟩:=e1
      refine⟨(d+1000*i,.arr (ay T e).1 (ay T e).2 ys,p)::l,by simp[Aw,q1],fun x hx=>?_,List.pairwise_cons.2 ⟨fun x hx=>?_,q3⟩,List.pairwise_cons.2 ⟨fun x hx b o o' e1 e2=>?_,q4⟩,fun x hx b o e1=>?_,fun x hx=>?_,by simp[q7],fun h β g1 g2 k v hk=>?_⟩
      · rcases List.mem_cons.1 hx with rfl | hx
        · exact⟨i,Nat.le_refl _,rfl⟩
        · obtain⟨j,hj1,hj2⟩:=q2 x hx
          exact⟨j,by omega,hj2⟩
      · obtain⟨j,hj1,hj2⟩:=q2 x hx
        rw[hj2];simp only;omega
      · exact h3 b o o' e1 (q5 x hx b o' e2)
      · rcases List.mem_cons.1 hx with rfl | hx
        · simp only at e1;simp[e1]
        · simp[q5 x hx b o e1]
      · rcases List.mem_cons.1 hx with rfl | hx
        · exact⟨_,_,_,rfl,hb.LQ rfl⟩
        · exact q6 x hx
      · cases k with
        | zero =>
         simp at hk;subst hk
         obtain⟨g3,g4⟩:=g1 _ List.mem_cons_self
         exact⟨c,rfl,hv.jv rfl g3 g4⟩
        | succ k=>simp at hk;simpa using q8 h β (fun x hx=>g1 x (by simp[hx])) g2 k v hk
     | DF t Wu ks a ls ys zs vs p hsh hla hk hn hvs hb hl =>
      have el:AV.nZ (.agg (ys.map .p++[.fresh a ls zs]))=zs:=by simp[AV.nZ,AV.ak]
      simp only[xO,hsh,hla,el,qOa,Prod.mk.injEq]at e1
      obtain⟨rfl,rfl⟩:=e1
      refine⟨(d+1000*i,.arr a ls zs,p)::l,by simp[Aw,q1],fun x hx=>?_,List.pairwise_cons.2 ⟨fun x hx=>?_,q3⟩,List.pairwise_cons.2 ⟨fun x hx b o o' e1 e2=>?_,q4⟩,fun x hx b o e1=>?_,fun x hx=>?_,by simp[q7],fun h β g1 g2 k v hk'=>?_⟩
      · rcases List.mem_cons.1 hx with rfl | hx
        · exact⟨i,Nat.le_refl _,rfl⟩
        · obtain⟨j,hj1,hj2⟩:=q2 x hx
          exact⟨j,by omega,hj2⟩
      · obtain⟨j,hj1,hj2⟩:=q2 x hx
        rw[hj2];simp only;omega
      · exact h3 b o o' e1 (q5 x hx b o' e2)
      · rcases List.mem_cons.1 hx with rfl | hx
        · simp only at e1;simp[e1]
        · simp[q5 x hx b o e1]
      · rcases List.mem_cons.1 hx with rfl | hx
        · exact⟨_,_,_,rfl,hb.LQ rfl⟩
        · exact q6 x hx
      · cases k with
        | zero =>
         simp at hk';subst hk'
         obtain⟨g3,g4⟩:=g1 _ List.mem_cons_self
         refine⟨.agg vs,rfl,?_⟩
         have hkl:=(fH hk).1
         have hcell:∀ (j:Nat) (c:PV),(dY ks (AV.agg (ys.map .p++[.fresh a ls zs])).AY 0)[j]?=some c→∃ q y,ks[j]?=some q∧ys[j]?=some y∧kindOk q y=true∧c=eta q y:=by
          intro j c hc
          rw[oQ]at hc
          cases hq:ks[j]? with
          | none=>rw[hq]at hc;cases hc
          | some q =>
           rw[hq]at hc
           simp only[Option.map_some,qOa]at hc
           have hj:j<ks.length:=(qLa.1 hq).1
           have hy:j<ys.length:=by omega
           have he:((AV.agg (ys.map .p++[.fresh a ls zs])).AY.cell (0+j))=ys[j]:=by
            simp[AV.AY,PV.cell,List.getElem?_append_left,hy,AV.pv]
           rw[he]at hc
           exact⟨q,ys[j],rfl,by simp[hy],(fH hk).2 j q ys[j] hq (by simp[hy]),hc.symm⟩
         refine .agg _ _ (by simp[hn,kF,hkl]) (fun c hc=>?_) fun j c hc=>?_
         · rcases List.mem_append.1 hc with hc | hc
           · obtain⟨x,hx,rfl⟩:=List.mem_map.1 hc
             obtain⟨j,hj⟩:=List.mem_iff_getElem?.1 hx
             obtain⟨q,y,_,_,g5,rfl⟩:=hcell j x hj
             exact F8 g5
           · rw[List.mem_singleton.1 hc];rfl
         · by_cases hj:j<ks.length
           · rw[List.getElem?_append_left (by simp[kF,hj]),List.getElem?_map]at hc
             cases hq:(dY ks (AV.agg (ys.map .p++[.fresh a ls zs])).AY 0)[j]? with
             | none=>rw[hq]at hc;cases hc
             | some x =>
              rw[hq]at hc
              simp only[Option.map_some,qOa]at hc
              subst hc
              obtain⟨q,y,_,g4',g5,rfl⟩:=hcell j x hq
              exact .p _ _ (vJ g5 (hvs j y g4'))
           · have hj' : j = ks.length := by
               have:=(qLa.1 hc).1
               simp[kF]at this
               omega
             rw[List.getElem?_append_right (by simp[kF,hj'])]at hc
             simp only[kF,List.length_map,hj',Nat.sub_self,List.getElem?_cons_zero,qOa]at hc
             subst hc
             rw[hj',hkl]
             exact hl.jv rfl g3 g4
        | succ k=>simp at hk';simpa using q8 h β (fun x hx=>g1 x (by simp[hx])) g2 k v hk'
   · cases h
end
end Go.Skm
namespace Go.Skm
def FW (rd:Option Nat):Fence:={ Fence.wide with round:=rd }
theorem yB (rd:Option Nat) {n:Nat}:(FW rd).depth.isSome=true→1≤n:=fun h=>by simp[FW,Fence.wide]at h
theorem dJ {P:Program} {f:FuncId} {args:Array Value} {w:World} {R:Ending→World→Prop} (rd:Option Nat) {n:Nat} (h:Calls P f args w R):CallsIn (FW rd) n P f args w R :=
 (callsIn_wide (n:=n)).2 h
theorem lX {P:Program} {f:FuncId} {args:Array Value} {w:World} {R:Ending→World→Prop} {rd:Option Nat} {n:Nat} (h:CallsIn (FW rd) n P f args w R):Calls P f args w R :=
 (callsIn_wide (n:=n)).1 h
theorem uG {P : Program} {o : Oper} {a : Act} {w : World} {K : Act → World → Prop} {Q : Exit → Act → World → Prop} {rd : Option Nat} {n : Nat} (hnd : ∀ c,o.op ≠ .defer c)
    (h:o.uponIn (FW rd) n P a K Q ((execOp a.eval o).run P w)):o.wpIn (FW rd) n P a w K Q :=
  ⟨fun _ _=>trivial,by rw[Oper.semAt_plain (FW rd) a.eval o hnd];exact h⟩
structure dF (P:Program) (w0:Base) (Pr M0:Nat→Prop) (β:Nat→Option (Nat × Nat)) (st:St) (a:Act) (w:World) (o:Oper) (D:DT):Prop where
 Zu:(∀ c,o.op≠.defer c)→∀ (α:Type) (k:Eff→Option α) (r:α),D.run k=some r→∀ (rd:Option Nat) (n:Nat) Q,Oper.wpIn (FW rd) n P o a w (fun a' w'=>(∃ c,a'=a.put o.dst c)∧∃ e M' β',k e=some r∧iH w0.gl w.drawn w'.drawn∧(gU (e.new++e.xE)=true →
  Rel w0 Pr M0 M' β' (st.apply o.dst e) a' w'∧(∀ s,ah≤s→β' s=β s)∧iQ st.heap (st.apply o.dst e).heap)) Q
section
variable {P:Program} {T:Tab} {w0:Base} {Pr M0 M:Nat→Prop} {β:Nat→Option (Nat × Nat)} {st:St} {a:Act} {w:World} {o:Oper}
theorem OX {α:Type} {c:Option (List AV × List aJ)} {f:List AV × List aJ→DT} {k:Eff→Option α} {r:α} (h:(DT.call c f).run k=some r):∃ x,c=some x∧(f x).run k=some r:=by
 cases c with
 | none=>simp[DT.run]at h
 | some x=>exact⟨x,rfl,by simpa [DT.run] using h⟩
theorem aO.op {D:DT} (h:aO P w0 Pr M0 β st a w o.dst D (execOp a.eval o)):dF P w0 Pr M0 β st a w o D:=by
 refine⟨fun hnd α k r hk rd n Q=>?_⟩
 obtain⟨e,nv,c,w',M',β',h1,h2,h3,h4⟩:=h.Zu α k r hk
 refine uG hnd ?_
 have hd:iH w0.gl w.drawn w'.drawn:=fun _=>Xz _ h2
 rw[h2]
 rcases h3 with rfl | ⟨rfl,rfl⟩
 · exact⟨⟨_,rfl⟩,e,M',β',h1,hd,h4⟩
 · exact⟨⟨_,rfl⟩,e,M',β',h1,hd,h4⟩
theorem EN {s:Nat}:∀ {l:List Ju},s∈keysOf (Aw l)↔∃ x∈l,x.1=s
 | []=>by simp[Aw,keysOf]
 | (k,b,p)::r=>by
  have ih:=EN (s:=s) (l:=r)
  simp only[Aw,List.map_cons,keysOf,List.mem_cons]at ih ⊢
  rw[ih]
  constructor
  · rintro (rfl | ⟨x,hx,rfl⟩)
    · exact⟨_,.inl rfl,rfl⟩
    · exact⟨x,.inr hx,rfl⟩
  · rintro ⟨x,rfl | hx,rfl⟩
    · exact .inl rfl
    · exact .inr ⟨x,hx,rfl⟩
theorem abr {h:Nat→Option aJ} {xs:List AV} {cs:List Value} (hl:xs.length=cs.length) (hx:∀ (k:Nat) (v:AV),xs[k]?=some v→∃ c,cs[k]?=some c∧AR w M β h v c):AR w M β h (qR xs) (wV cs):=by
 match xs,cs,hl,hx with
 | [v],[c],_,hx =>
  obtain⟨c',h1,h2⟩:=hx 0 v rfl
  simp at h1;subst h1;exact h2
 | [],[],_,_=>exact .nJ [] #[] rfl fun i c hi=>by simp at hi
 | x::y::xs,c::d::cs,hl,hx =>
  refine .nJ _ _ (by simp at hl;simp[hl]) fun i v hi=>?_
  obtain⟨c',h1,h2⟩:=hx i v hi
  have:(c::d::cs).toArray.getD i undef=c':=by
   simp only[qAb,List.getElem?_toArray,h1,Option.getD_some]
  rw[this];exact h2
 | [],_::_,hl,_=>simp at hl
 | _::_,[],hl,_=>simp at hl
 | [_],_::_::_,hl,_=>simp at hl
 | _::_::_,[_],hl,_=>simp at hl
theorem Rel.results (r : Rel w0 Pr M0 M β st a w) {βa : Nat → Option (Nat × Nat)} {ha : Nat → Option aJ} {d : Nat} {ss : List Nat} {ms : List dO} {ts : List TypeId} {rs : List AV} {cs : List Value} {ps : List (Option (Nat × Nat))}
    {xs:List AV} {bs:List (Nat × aJ)} (hr:sD T w M βa ha ms ts rs cs ps) (hv:tH T d ss 0 ms ts rs=some (xs,bs)) (hfree:∀ s∈keysOf bs,look st.heap s=none)
    (hown:∀ b o,some (b,o)∈ps→¬ M b∧b<w.heap.size∧w0.heap.size≤b∧∀ s' o',(look st.heap s').isSome=true→β s'≠some (b,o'))
    (harg:∀ j s blk,ss[j]?=some s→ha (ah+j)=some blk→look st.heap s=some blk∧β s=βa (ah+j)) :
    ∃ β',Rel w0 Pr M0 M β' { env:=Skm.setEnv st.env (some d) (qR xs),heap:=dZ st.heap bs } (a.put (some d) (wV cs)) w∧∀ s,s ∉ keysOf bs→β' s=β s:=by
  obtain⟨l,rfl,q2,q3,q4,q5,q6,q7,q8⟩:=U8 hr hv
  have hfr:∀ x∈l,look st.heap x.1=none:=fun x hx=>hfree x.1 (EN.2 ⟨x,hx,rfl⟩)
  have r1:=Rel.lays l r q3 hfr q4 (fun x hx b o e=>hown b o (q5 x hx b o e)) q6
  refine⟨overlay β l,r1.setEnv (some d) (abr q7 (q8 _ _ (fun x hx=>⟨OW q3 hx,LP q3 hx⟩) fun j s blk h1 h2=>?_)),fun s hs=>wW fun x hx e=>hs (EN.2 ⟨x,hx,e⟩)⟩
  obtain⟨g1,g2⟩:=harg j s blk h1 h2
  have hne:∀ x∈l,x.1≠s:=fun x hx e=>by rw[← e,hfr x hx]at g1;cases g1
  exact⟨(EM hne).trans g1,(wW hne).trans g2⟩
theorem Dn (ok:bJ P T) {f:Nat} {fi:FI} (hf:bI T.funcs f=some fi) (hb:∃ c,fi.fn.body=some c) (args:Array Value):(callFunc f args).run P w=.ok (.enter f args) w:=by
 obtain⟨h1,h2,_⟩:=ok.funcs f fi hf
 obtain⟨c,hc⟩:=hb
 unfold callFunc
 simp only[Sem.run_bind,program,Sem.run,qRa,h1,h2,hc,Option.isNone_some,Bool.false_eq_true,if_false,Sem.run_pure]
theorem D6 (st : St) (d : Option Nat) (v : AV) (bs : List (Nat × aJ)) (nw fz : List Nat) : st.apply d { val := v,mD := bs,new := nw,xE := fz } =
    { env:=Skm.setEnv (st.strike (present st.heap nw++fz)).env d v,heap:=dZ (st.strike (present st.heap nw++fz)).heap bs }:=rfl
theorem BU {nw fz:List Nat} {s:Nat} (hs:s∈nw):look (st.strike (present st.heap nw++fz)).heap s=none:=by
 rw[bU]
 by_cases hm:s∈present st.heap nw++fz
 · rw[if_pos hm]
 · rw[if_neg hm]
   cases hd:look st.heap s with
   | none=>rfl
   | some x=>exact absurd (List.mem_append.2 (.inl (oU hs (by rw[hd];rfl)))) hm
theorem SY {ss:List Nat} {s:Nat} (h:(look (st.strike ss).heap s).isSome=true):s ∉ ss∧(look st.heap s).isSome=true:=by
 rw[bU]at h
 by_cases hm:s∈ss
 · rw[if_pos hm]at h;cases h
 · rw[if_neg hm]at h;exact⟨hm,by simpa using h⟩
theorem XP {sh:Bool × List Kd} {x:PV} {M:Nat→Prop} {c:Value} (h:VR w M x c):VR w M (UQ sh x) c:=by
 unfold UQ
 split
 · cases h;exact .kZ _ _ none 0
 · exact h
theorem sF:∀ (ts:List TypeId) (vs:List PV),(normArgs T ts vs).length=vs.length
 | [],vs=>by simp[normArgs]
 | t::ts,[]=>rfl
 | t::ts,v::vs=>by simp[normArgs,sF ts vs]
theorem Gh:∀ (ts:List TypeId) (vs:List PV) (i:Nat) (v:AV),(normArgs T ts vs)[i]?=some v→∃ x,vs[i]?=some x∧∀ (M:Nat→Prop) (β:Nat→Option (Nat × Nat)) (h:Nat→Option aJ) (c:Value),VR w M x c→AR w M β h v c
 | [],vs,i,v,h=>by
  simp only[normArgs,List.getElem?_map,Option.map_eq_some_iff]at h
  obtain⟨x,hx,rfl⟩:=h
  exact⟨x,hx,fun M β h c hv=>.p _ _ hv⟩
 | t::ts,[],i,v,h=>by simp[normArgs]at h
 | t::ts,x::vs,0,v,h=>by
  simp only[normArgs,List.getElem?_cons_zero,qOa]at h
  subst h
  exact⟨x,rfl,fun M β h c hv=>.p _ _ (XP hv)⟩
 | t::ts,x::vs,i+1,v,h=>by
  simp only[normArgs,List.getElem?_cons_succ]at h
  simpa using Gh ts vs i v h
theorem I4 (raw:Bool) (ts:List TypeId) (vs:List PV) (i:Nat) (v:AV) (h:(cond raw (vs.map .p) (normArgs T ts vs))[i]?=some v):∃ x,vs[i]?=some x∧∀ (M:Nat→Prop) (β:Nat→Option (Nat × Nat)) (h:Nat→Option aJ) (c:Value),VR w M x c→AR w M β h v c:=by
 cases raw with
 | false=>exact Gh ts vs i v h
 | true =>
  simp only[cond_true,List.getElem?_map,Option.map_eq_some_iff]at h
  obtain⟨x,hx,rfl⟩:=h
  exact⟨x,hx,fun M β h c hv=>.p _ _ hv⟩
theorem XQ (ok : bJ P T) {C : aA} (hC : fZ P T w0.gl C) (r : Rel w0 Pr M0 M β st a w) {h' : Nat → Option aJ} (hsub : ∀ s b,h' s = some b → look st.heap s = some b) {d f : Nat} {fi : FI} {args : List AV} {aF : Array Value}
    (hd:o.dst=some d) (hf:bI T.funcs f=some fi) (hm:fi.cfg.DR=false) (hargs:lV w M β (look st.heap) args aF.toList) (he:(execOp a.eval o).run P w=(callFunc f aF).run P w) :
    dF P w0 Pr M0 β st a w o (oO T C h' o.dst f args):=by
  rw[hd]
  simp only[oO,hf,hm]
  cases hdp:DV h' args with
  | none=>exact⟨fun _ _ _ _ hk=>by simp[DT.run]at hk⟩
  | some q =>
   obtain⟨vs,ss⟩:=q
   refine⟨fun hnd α k res hk rd n Q=>?_⟩
   obtain⟨⟨rs,pG⟩,hcall,hk⟩:=OX hk
   obtain⟨hbody,LZ⟩:=hC.plain f fi _ [] rs pG hf (by simp) hcall
   obtain⟨d1,d2,d3⟩:=Gf (fun s b h=>r.heap s b (hsub s b h)) hsub hdp hargs
   obtain⟨ms',hk,hms⟩:=XL (T:=T) hk
   cases hres:tH T d [] 0 ms' fi.fn.resultTypes.toList rs with
   | none=>rw[hres]at hk;simp[DT.run]at hk
   | some xb =>
    obtain⟨xs,bs⟩:=xb
    rw[hres]at hk
    simp only[DT.run]at hk
    refine uG hnd ?_
    rw[he,Dn ok hf hbody,Oper.uponIn_enter]
    refine⟨yB rd,dJ rd ?_⟩
    have hpre:tX w (bD M β ss) β (cond fi.cfg.zJ (vs.map .p) (normArgs T fi.fn.params.toList vs)) [] aF:=by
     refine⟨by cases fi.cfg.zJ<;>simp[d1,sF],fun i v hi=>?_,fun i b0 hi=>by simp at hi,fun i b o hi=>by simp at hi,fun i j b o o' hi=>by simp at hi,fun b hb=>?_⟩
     · obtain⟨x,hx,hv⟩:=I4 (T:=T) (w:=w) fi.cfg.zJ _ _ i v hi
       have hlt:i<aF.toList.length:=by rw[← d1];exact(qLa.1 hx).1
       have hc:aF.toList[i]?=some (aF.getD i undef):=by
        rw[qLd hlt]
        simp only[Array.length_toList]at hlt
        simp[hlt]
       exact hv _ _ _ _ (d2 i x _ hx hc)
     · rcases hb with hb | ⟨s,o,hs,hb⟩
       · exact r.fB b hb
       · exact(r.own s b o (d3 s hs) hb).2.1
    refine Calls.mono (LZ w _ β aF (fun p hp=>⟨.inl (r.glob p hp).1,(r.glob p hp).2⟩) hpre) fun e w' hpost=>?_
    obtain⟨cs,ps,M',rfl,post⟩:=hpost
    have hkeep:∀ b,b<w.heap.size→w'.heap[b]?=w.heap[b]?:=fun b hb=>post.keep b hb fun i o hi=>by simp at hi
    refine⟨⟨_,rfl⟩,?_⟩
    show ∃ e M' β',_
    obtain ⟨M'',hM1,hM2,hM3,hM4⟩ : ∃ M'' : Nat → Prop,(∀ b,bD M β (cond fi.cfg.shares ss []) b → M'' b) ∧ (∀ b,M'' b → bD M β (cond fi.cfg.shares ss []) b ∨ (w.heap.size ≤ b ∧ b < w'.heap.size)) ∧ (∀ b,M'' b → M' b) ∧
        sD T w' M'' β (look (dM 0 pG)) ms' fi.fn.resultTypes.toList rs cs ps:=by
      cases hs:fi.cfg.shares with
      | true=>exact⟨M',fun b hb=>post.fB b hb,fun b hb=>(post.jQ b hb).imp id fun h=>⟨h,post.mlt b hb⟩,fun _ h=>h,hms _ _ _ _ _ _ _ post.res⟩
      | false =>
       obtain⟨M2,k1,k2⟩:=post.res2 hm hs
       refine⟨fun b=>bD M β [] b∨M2 b,fun _ h=>.inl h,fun b h=>h.imp id fun h=>⟨(k1 b h).2,post.mlt b (k1 b h).1⟩,fun b hb=>?_,(hms _ _ _ _ _ _ _ k2).mono fun _ h=>.inr h⟩
       rcases hb with (hb | ⟨s,o,hs,_⟩) | hb
       · exact post.fB b (.inl hb)
       · simp at hs
       · exact(k1 b hb).1
    refine⟨{ val:=qR xs,mD:=bs,new:=keysOf bs,xE:=cond fi.cfg.shares ss [] },M'',?_⟩
    by_cases hfz:gU (keysOf bs++cond fi.cfg.shares ss [])=true
    · have r1 := r.freeze (present st.heap (keysOf bs)) (cond fi.cfg.shares ss []) (jF hfz).2 (by
        cases fi.cfg.shares with
        | false=>simp
        | true=>exact d3)
      have r2:Rel w0 Pr M0 M'' β (st.strike (present st.heap (keysOf bs)++cond fi.cfg.shares ss [])) a w' :=
       r1.world post.size post.os post.tape post.output (fun b hb _=>hkeep b hb) (fun b n _ hb _ hr=>hr.of_block (hkeep b hb)) hM1 hM2
      obtain⟨β',r3,pJ⟩:=r2.results (d:=d) hM4 hres (fun s hs=>BU hs) (fun b o hb=>by
       obtain⟨g1,g2,g3⟩:=post.own b o hb
       refine⟨fun h=>g1 (hM3 b h),g2,by have:=r.size;omega,fun s' o' hs' pJ=>?_⟩
       have:=(r1.own s' b o' hs' pJ).2.1
       omega) (fun j s blk hj=>by simp at hj)
      refine⟨β',hk,post.drawn,fun _=>⟨?_,fun s hs=>pJ s fun hk=>?_,fQ fun k b hkb=>.inl ?_⟩⟩
      · rw[hd];exact r3
      · have:=nV (jF hfz).1 s hk;omega
      · refine nV (jF hfz).1 k ?_
        have:∀ (l:List (Nat × aJ)),(k,b)∈l→k∈keysOf l:=by
         intro l
         induction l with
         | nil=>intro h;simp at h
         | cons x r ih =>
          intro h
          rcases List.mem_cons.1 h with rfl | h
          · simp[keysOf]
          · simp[keysOf,ih h]
        exact this _ hkb
    · exact⟨β,hk,post.drawn,fun h=>absurd h hfz⟩
end
end Go.Skm
namespace Go.Skm
section
variable {P:Program} {T:Tab} {w0:Base} {Pr M0 M:Nat→Prop} {β:Nat→Option (Nat × Nat)} {st:St} {a:Act} {w:World} {o:Oper}
theorem BR.XR {β':Nat→Option (Nat × Nat)} {h h':Nat→Option aJ} {s s':Nat} {blk:aJ} (hb:BR w M β h s blk) (hp:dS blk=true) (e:β' s'=β s):BR w M β' h' s' blk:=by
 cases hb with
 | gY=>exact .gY _ _
 | log=>exact .log _ _
 | tb=>simp[dS]at hp
 | mp=>simp[dS]at hp
 | br=>simp[dS]at hp
 | EH=>simp[dS]at hp
 | arr _ _ _ b o C e' fr g1 g2 g3 g4 g5 g6=>exact .arr _ _ _ b o C e' fr (e.trans g1) g2 g3 g4 g5 g6
 | box cs b o C e' fr g1 g2 g3 g4 g5 g6 =>
  refine .box cs b o C e' fr (e.trans g1) g2 g3 g4 g5 fun j c hc=>?_
  simp only[dS,Option.isSome_iff_exists]at hp
  obtain⟨vs,hp⟩:=hp
  have hcs:=rG hp
  subst hcs
  have hc':=g6 j c hc
  simp only[List.getElem?_map,Option.map_eq_some_iff]at hc
  obtain⟨x,_,rfl⟩:=hc
  generalize C.getD (o+j) undef=u at hc'
  cases hc' with
  | p _ _ hv=>exact .p _ _ hv
end
section
variable {P:Program} {T:Tab} {w0:Base} {Pr M0 M:Nat→Prop} {β:Nat→Option (Nat × Nat)} {st:St} {a:Act} {w:World} {o:Oper}
end
end Go.Skm
namespace Go.Skm
section
variable {P:Program} {T:Tab} {w0:Base} {Pr M0 M:Nat→Prop} {β:Nat→Option (Nat × Nat)} {st:St} {a:Act} {w:World} {o:Oper}
theorem zV {x:PV} (h:au false [.int .u8] x=true):∃ n,x=.int .u8 n:=by
 cases x<;>simp[au,kindOk]at h
 exact⟨_,by rw[← h]⟩
theorem XT {e:TypeId} {v:Value} {q:Option (Nat × Nat)} {cs:List Value} (h:wR e w v q cs):∃ base cap,v=.slice base cs.length cap:=by
 rcases h with ⟨_,rfl,rfl⟩ | ⟨b,cap,C,fr,_,rfl,_⟩
 · exact⟨none,0,rfl⟩
 · exact⟨_,cap,rfl⟩
theorem row_of (r : Rel w0 Pr M0 M β st a w) {g : Nat} {e : TypeId} {xs : List PV} {v : Value} (hg : look st.heap g = some (.br e xs)) (hv : AR w M β (look st.heap) (.mref g) v) :
    ∃ q,wR e w v q (xs.map iL)∧(∀ b o,q=some (b,o)→β g=some (b,o))∧∀ x∈xs,au false [.int .u8] x=true:=by
  have hxs:∀ x∈xs,au false [.int .u8] x=true:=by
   cases r.heap g _ hg with
   | EH=>simp
   | br _ _ b C fr g1 g2 g3 g4 g5 g6=>exact g5
  cases hv with
  | EF _ t es b o p1=>rw[hg]at p1;cases p1
  | EG _ e' xs' b cap p1 p2 p3 p4 p5 =>
   rw[hg]at p1;cases p1
   obtain⟨C,e',fr,k1,k2⟩:=p5.akr
   cases r.heap g _ hg with
   | EH=>simp at p4
   | br _ _ b' C2 fr2 g1 g2 g3 g4 g5 g6 =>
    rw[p2]at g1;cases g1
    rw[k1]at g2;cases g2
    refine⟨some (b,0),.inr ⟨b,cap,C,fr,rfl,by simp,by simpa using p3,by simpa using p4,k1,k2,by simpa using g4,fun j c hj=>?_⟩,fun _ _ h=>by cases h;exact p2,hxs⟩
    rw[List.getElem?_map]at hj
    cases hy:xs[j]? with
    | none=>rw[hy]at hj;simp at hj
    | some y =>
     rw[hy]at hj
     simp only[Option.map_some,qOa]at hj
     subst hj
     exact g6 j y hy
  | vK _ e' p1 =>
   rw[hg]at p1;cases p1
   exact⟨none,.inl ⟨rfl,rfl,rfl⟩,fun b o h=>(by cases h),hxs⟩
theorem XU {xs:List PV} (h:∀ x∈xs,au false [.int .u8] x=true):∀ c∈xs.map iL,∃ n,c=.int .u8 n:=by
 intro c hc
 obtain⟨x,hx,rfl⟩:=List.mem_map.1 hc
 obtain⟨n,rfl⟩:=zV (h x hx)
 exact⟨n,rfl⟩
theorem Tc {e : TypeId} {w' : World} {v' : Value} {q' : Option (Nat × Nat)} {ys : List PV} (hr : wR e w' v' q' (ys.map iL)) (hys : ∀ x ∈ ys,au false [.int .u8] x = true) {β' : Nat → Option (Nat × Nat)} {h' : Nat → Option aJ} {x : Nat} (pJ : β' x = q') (hh : h' x = some (.br e ys)) :
    BR w' M β' h' x (.br e ys)∧AR w' M β' h' (.mref x) v':=by
  rcases hr with ⟨rfl,h2,rfl⟩ | ⟨b,cap,C,fr,rfl,rfl,h3,h4,h5,h6,h7,h8⟩
  · have hy:ys=[]:=by simpa using h2
    subst hy
    exact⟨.EH _,.vK x e hh⟩
  · simp only[List.length_map]at h3 h4 h7 ⊢
    refine⟨.br e ys b C fr pJ h5 (by omega) h7 hys fun i y hy=>h8 i _ (by rw[List.getElem?_map,hy];rfl),.EG x e ys b cap hh pJ h3 h4 (Room.mkC h5 h6)⟩
theorem Rel.built (r : Rel w0 Pr M0 M β st a w) {s x b : Nat} {t : TypeId} {c0 c1 : AV} (hs : look st.heap s = some (.tb t c0 c1)) (hx : look st.heap x = none) (hxs : x ≠ s) (pJ : β s = some (b,0))
    (hs1:s<ah) (anE:x<ah) {q:Option (Nat × Nat)} (hq:∀ g o,q=some (g,o)→¬ M g∧g<w.heap.size∧((w0.heap.size≤g∨Pr g)∧(w0.n0≤g∨ah≤x))∧∀ s' o',(look st.heap s').isSome=true→β s'≠some (g,o'))
    {fr:Nat × Nat} {C:Array Value} (hw:w.heap[b]?=some (.cells C t fr)) (hn:C.size=2) (ho:Open #[Value.pointer (some ⟨b,0,none⟩),undef] fr) {w':World} {ys:List PV} (hys:∀ y∈ys,au false [.int .u8] y=true) {e:TypeId} {N:Prop} (hp:xA N e w t b q (ys.map iL) fr w')
    {d:Option Nat} {v:AV} {c:Value} (hv:∀ w' h' β',AR w' M β' h' v c) :
    ∃ q',Rel w0 Pr M0 M (fun y=>if y=x then q' else β y) { env:=Skm.setEnv st.env d v,heap:=put (put st.heap x (.br e ys)) s (.tb t (.ptr s 0 0) (.mref x)) } (a.put d c) w':=by
  obtain⟨v',q',p1,p2,p3⟩:=hp.put
  have his:(look st.heap s).isSome=true:=by rw[hs];rfl
  obtain⟨o1,o2,o3⟩:=r.own s b 0 his pJ
  have hq1:∀ k,(M k∨(k<w0.heap.size∧¬ Pr k))→k<w.heap.size→w'.heap[k]?=w.heap[k]?:=by
   intro k hk hkl
   refine hp.keep k hkl (fun e=>?_) fun o e=>?_
   · subst e
     rcases hk with h | ⟨h1,h2⟩
     · exact o1 h
     · rcases o3.1 with h | h
       · omega
       · exact h2 h
   · obtain⟨g1,g2,g3,g4⟩:=hq k o e
     rcases hk with h | ⟨h1,h2⟩
     · exact g1 h
     · rcases g3.1 with h | h
       · omega
       · exact h2 h
  have hopen:∀ u,Open #[Value.pointer (some ⟨b,0,none⟩),u] fr:=fun u=>ho.size rfl
  have U9:∀ y,look (put st.heap s (.tb t (.ptr s 0 0) .undef)) y=if y=s then some (.tb t (.ptr s 0 0) .undef) else look st.heap y:=fun y=>aZ _ _ _ _
  have hroom:∀ k n,k<w.heap.size→((∃ s' o',(look st.heap s').isSome=true∧β s'=some (k,o'))∨(k<w0.n0∧Pr k))→Room w k n→Room w' k n:=by
   intro k n hk hc hr
   by_cases e:k=b
   · subst e
     obtain⟨C1,e1,Ug,h1,h2,h3⟩:=hr
     rw[hw]at h1;cases h1
     exact⟨_,t,fr,p1,by simp;omega,fun _=>hopen _⟩
   · refine hr.of_block (hp.keep k hk e fun o' e'=>?_)
     obtain⟨g1,g2,g3,g4⟩:=hq k o' e'
     rcases hc with ⟨s',o'',h1,h2⟩ | ⟨h1,h2⟩
     · exact g4 s' o'' h1 h2
     · rcases g3.2 with h | h<;>omega
  have r1:Rel w0 Pr M0 M β { st with heap:=put st.heap s (.tb t (.ptr s 0 0) .undef) } a w':=by
   refine r.moved hp.size hp.os hp.tape hp.output (fun k hk h=>hq1 k h hk) hroom (fun _ h=>h) (fun _ h=>.inl h) (fun y hy=>?_) (fun y blk hy=>?_)
   · rw[U9]
     by_cases e:y=s
     · subst e;rw[hs]at hy;cases hy
     · rw[if_neg e];exact hy
   · rw[U9]
     by_cases e:y=s
     · subst e
       rw[hs]at hy;cases hy
       refine⟨.tb t (.ptr y 0 0) .undef,if_pos rfl,.inr ⟨rfl,.tb t _ _ b #[.pointer (some ⟨b,0,none⟩),v'] fr pJ p1 rfl (hopen _) rfl rfl ?_ (.undef _)⟩⟩
       exact .ptrT y 0 t (.ptr y 0 0) .undef b (by rw[U9,if_pos rfl]) pJ
     · refine⟨blk,by rw[if_neg e];exact hy,.inl ⟨rfl,fun k o' hk=>?_⟩⟩
       have hiy:(look st.heap y).isSome=true:=by rw[hy];rfl
       refine hp.keep k (r.own y k o' hiy hk).2.1 (fun e2=>?_) fun o2 e2=>?_
       · subst e2;exact e (r.inj y s k o' 0 hiy his hk pJ)
       · exact(hq k o2 e2).2.2.2 y o' hiy hk
  have hx1:look (put st.heap s (.tb t (.ptr s 0 0) .undef)) x=none:=by rw[U9,if_neg hxs];exact hx
  obtain⟨b1,b2⟩:=Tc (M:=M) p2 hys (β':=fun y=>if y=x then q' else β y) (h':=fun y=>if y=x then some (.br e ys) else look (put st.heap s (.tb t (.ptr s 0 0) .undef)) y) (x:=x) (by simp) (by simp)
  have r2:=r1.lay (s:=x) (blk:=.br e ys) hx1 (p:=q') (fun g og eg=>by
   obtain⟨n1,n2⟩:=p3 g og eg
   have hlive:∀ (s':Nat),(look (put st.heap s (.tb t (.ptr s 0 0) .undef)) s').isSome=true→(look st.heap s').isSome=true:=fun s' h=>by
    rw[U9]at h
    by_cases e:s'=s
    · subst e;exact his
    · rw[if_neg e]at h;exact h
   rcases n2 with ⟨o',e'⟩ | hnew
   · obtain⟨g1,g2,g3,g4⟩:=hq g o' e'
     exact⟨g1,Nat.lt_of_lt_of_le g2 hp.size,g3,fun s' o'' hs'=>g4 s' o'' (hlive s' hs')⟩
   · refine⟨fun hM=>?_,?_,⟨.inl (Nat.le_trans r.size hnew),.inl (Nat.le_trans (Nat.le_trans w0.le' r.size) hnew)⟩,fun s' o'' hs' adn=>?_⟩
     · have:=r.fB _ hM;omega
     · rcases p2 with ⟨rfl,_⟩ | ⟨b',cap,C',fr',rfl,_,_,_,h4,_⟩
       · cases eg
       · cases eg;exact(qAa.1 h4).1
     · have:=(r.own s' g o'' (hlive s' hs') adn).2.1
       omega) b1
  refine⟨q',?_⟩
  have hlk2:∀ y,look (put (put st.heap s (.tb t (.ptr s 0 0) .undef)) x (.br e ys)) y=if y=x then some (.br e ys) else look (put st.heap s (.tb t (.ptr s 0 0) .undef)) y:=fun y=>aZ _ _ _ _
  have abt:∀ y,look (put (put st.heap x (.br e ys)) s (.tb t (.ptr s 0 0) (.mref x))) y=if y=s then some (.tb t (.ptr s 0 0) (.mref x)) else if y=x then some (.br e ys) else look st.heap y:=fun y=>by rw[aZ,aZ]
  have r3:Rel w0 Pr M0 M (fun y=>if y=x then q' else β y) { st with heap:=put (put st.heap x (.br e ys)) s (.tb t (.ptr s 0 0) (.mref x)) } a w':=by
   refine r2.moved (hp':=put (put st.heap x (.br e ys)) s (.tb t (.ptr s 0 0) (.mref x))) (Nat.le_refl _) rfl rfl rfl (fun _ _ _=>rfl) (fun _ _ _ _ h=>h) (fun _ h=>h) (fun _ h=>.inl h) (fun y hy=>?_) (fun y blk hy=>?_)
   · have hy:look (put (put st.heap s (.tb t (.ptr s 0 0) .undef)) x (.br e ys)) y=none:=hy
     rw[hlk2]at hy
     rw[abt]
     by_cases e1:y=x
     · rw[if_pos e1]at hy;cases hy
     · rw[if_neg e1,U9]at hy
       by_cases e2:y=s
       · rw[if_pos e2]at hy;cases hy
       · rw[if_neg e2]at hy
         rw[if_neg e2,if_neg e1];exact hy
   · have hy:look (put (put st.heap s (.tb t (.ptr s 0 0) .undef)) x (.br e ys)) y=some blk:=hy
     rw[hlk2]at hy
     rw[abt]
     by_cases e1:y=x
     · rw[if_pos e1]at hy;cases hy
       have:¬ y=s:=by rw[e1];exact hxs
       exact⟨_,by rw[if_neg this,if_pos e1],.inl ⟨rfl,fun _ _ _=>rfl⟩⟩
     · rw[if_neg e1,U9]at hy
       by_cases e2:y=s
       · rw[if_pos e2]at hy;cases hy
         subst e2
         refine⟨.tb t (.ptr y 0 0) (.mref x),by rw[if_pos rfl],.inr ⟨rfl,.tb t _ _ b #[.pointer (some ⟨b,0,none⟩),v'] fr (by rw[if_neg e1];exact pJ) p1 rfl (hopen _) rfl rfl ?_ ?_⟩⟩
         · exact .ptrT y 0 t _ _ b (by rw[abt,if_pos rfl]) (by rw[if_neg e1];exact pJ)
         · exact(Tc (M:=M) p2 hys (β':=fun y=>if y=x then q' else β y) (h':=look (put (put st.heap x (.br e ys)) y (.tb t (.ptr y 0 0) (.mref x)))) (x:=x) (by simp) (by rw[abt,if_neg hxs,if_pos rfl])).2
       · rw[if_neg e2]at hy
         exact⟨blk,by rw[if_neg e2,if_neg e1];exact hy,.inl ⟨rfl,fun _ _ _=>rfl⟩⟩
  exact r3.setEnv d (hv _ _ _)
theorem Ie {x:Nat} {l:List Nat} (h:dR x l=true):x∈l:=jr.1 h
theorem mO {α:Type} {c:Bool} {D:DT} {k:Eff→Option α} {r:α} (h:(chk c D).run k=some r):c=true∧D.run k=some r:=by
 cases c with
 | true=>exact⟨rfl,h⟩
 | false=>simp[chk,DT.run]at h
theorem WJ (r : Rel w0 Pr M0 M β st a w) {s : Nat} {t : TypeId} {c0 c1 : AV} (hs : look st.heap s = some (.tb t c0 c1)) {c : Value} (hc : AR w M β (look st.heap) (.ptr s 0 0) c) :
    ∃ b C fr,β s=some (b,0)∧c=.pointer (some ⟨b,0,none⟩)∧w.heap[b]?=some (.cells C t fr)∧C.size=2∧Open C fr∧AR w M β (look st.heap) c0 (C.getD 0 undef)∧AR w M β (look st.heap) c1 (C.getD 1 undef):=by
  cases hc with
  | ptrB _ _ cs b o p1 p2=>rw[hs]at p1;cases p1
  | ptrA _ _ _ a ks xs b o p1 p2 p3=>rw[hs]at p1;cases p1
  | ptrT _ _ t' d0 d1 b p1 p2 =>
   cases r.heap s _ hs with
   | tb _ _ _ b' C fr g1 g2 g3 g4 g5 g6 g7 g8 =>
    rw[p2]at g1;cases g1
    exact⟨b,C,fr,p2,rfl,g2,g3,g4,g7,g8⟩
theorem Td {s b:Nat} {c0:AV} {c:Value} {t:TypeId} {d0 d1:AV} {h:Nat→Option aJ} (hs:h s=some (.tb t d0 d1)) (pJ:β s=some (b,0)) (ho:JG s c0=true) (hc:AR w M β h c0 c):c=.pointer none∨c=.pointer (some ⟨b,0,none⟩):=by
 unfold JG at ho
 split at ho
 · cases hc with
   | p _ _ hv=>cases hv;exact .inl rfl
 · next x =>
   have e:x=s:=by simpa using ho
   subst e
   cases hc with
   | ptrB _ _ cs b o p1 p2=>rw[hs]at p1;cases p1
   | ptrA _ _ _ a ks xs b o p1 p2 p3=>rw[hs]at p1;cases p1
   | ptrT _ _ t' d0 d1 b' p1 p2=>rw[pJ]at p2;cases p2;exact .inr rfl
 · cases ho
theorem XV (st : St) (d : Option Nat) (v : AV) {g s : Nat} {b1 b2 : aJ} (x : Nat) :
    look (st.apply d { val:=v,mD:=[(g,b1),(s,b2)],cut:=[g] }).heap x=look (put (put (st.strike [g]).heap g b1) s b2) x:=by
  show look (put (put (fE [g] st.heap) g b1) s b2) x=_
  rw[aZ,aZ,aZ,aZ]
  by_cases e1:x=s
  · rw[if_pos e1,if_pos e1]
  · rw[if_neg e1,if_neg e1]
    by_cases e2:x=g
    · rw[if_pos e2,if_pos e2]
    · rw[if_neg e2,if_neg e2,fA,bU,if_neg (by simpa using e2)]
theorem L6 (x:ByteArray):(uX x).map iL=sU x.data.toList:=by
 simp[uX,sU,iL,List.map_map,Function.comp_def]
theorem Gi (x:ByteArray):∀ y∈uX x,au false [.int .u8] y=true:=by
 intro y hy
 obtain⟨z,_,rfl⟩:=List.mem_map.1 hy
 rfl
theorem BX (_r:Rel w0 Pr M0 M β st a w) {ss:List Nat} {s:Nat} {t:TypeId} {c0 c1:AV} (hs:look st.heap s=some (.tb t c0 c1)) (hn:s ∉ ss):∃ d0 d1,look (st.strike ss).heap s=some (.tb t d0 d1):=by
 rw[bU,if_neg hn,hs]
 exact⟨_,_,rfl⟩
theorem QA (r : Rel w0 Pr M0 M β st a w) {h' : Nat → Option aJ} (hsub : ∀ s b,h' s = some b → look st.heap s = some b) {d s m b : Nat} {t el : TypeId} {c0 c1 : AV} {ys : List PV} {val : AV} {rv : Value} {C : Array Value} {fr : Nat × Nat}
    (hs:look st.heap s=some (.tb t c0 c1)) (pJ:β s=some (b,0)) (hw:w.heap[b]?=some (.cells C t fr)) (hn:C.size=2) (hop:Open C fr) (h0:C.getD 0 undef=.pointer none∨C.getD 0 undef=.pointer (some ⟨b,0,none⟩)) (h1:AR w M β (look st.heap) c1 (C.getD 1 undef))
    (hs1:s<ah) (hys:∀ y∈ys,au false [.int .u8] y=true) (_hm:ys.length=m) (hval:∀ w' h' β',AR w' M β' h' val rv) (_anF:∀ ss,AV.refers ss val=false) {α:Type} {k:Eff→Option α} {res:α} (hk:(KU h' d s t el c1 m ys val).run k=some res) :
    ∃ q cs,(∀ x o,q=some (x,o)→¬ M x)∧Am el w t b q cs C fr∧cs.length+m≤2147483648∧∀ (N:Prop) w',(w0.gl=none→N)→xA N el w t b q (cs++ys.map iL) fr w'→∃ e M' β',k e=some res∧iH w0.gl w.drawn w'.drawn∧(gU (e.new++e.xE)=true →
     Rel w0 Pr M0 M' β' (st.apply (some d) e) (a.put (some d) rv) w'∧(∀ s,ah≤s→β' s=β s)∧iQ st.heap (st.apply (some d) e).heap):=by
  have his:(look st.heap s).isSome=true:=by rw[hs];rfl
  have hopen:Open #[Value.pointer (some ⟨b,0,none⟩),undef] fr:=hop.size (by simp[hn])
  unfold KU at hk
  split at hk
  · obtain⟨g1,hk⟩:=mO hk
    obtain⟨g2,hk⟩:=mO hk
    have hds:d≠s:=by simpa using g1
    have g2:m≤2147483648:=by simpa using g2
    have hC1:C.getD 1 undef=.slice none 0 0:=by
     generalize C.getD 1 undef=u at h1
     cases h1 with
     | p _ _ hv=>cases hv;rfl
    refine⟨none,[],(fun _ _ h=>by cases h),⟨hw,hn,hop,h0,.inl ⟨rfl,rfl,hC1⟩,by simp,by simp⟩,by simpa using g2,fun N w' hN hp=>?_⟩
    refine⟨{ val:=val,mD:=[(d,.br el ys),(s,.tb t (.ptr s 0 0) (.mref d))],new:=[d] },M,?_⟩
    by_cases hf:gU ([d]++[])=true
    · have r1:=r.strike (M':=M) (present st.heap [d]++[]) (fun _ h=>h) (fun _ h=>.inl h)
      have hns:s ∉ present st.heap [d]++[]:=by
       simp only[List.append_nil]
       intro h
       have:=(mJ h).1
       simp at this
       exact hds this.symm
      obtain⟨d0,d1,hs'⟩:=BX r hs hns
      have hd0:look (st.strike (present st.heap [d]++[])).heap d=none:=BU (by simp)
      obtain⟨q',r2⟩:=r1.built (d:=some d) (v:=val) (c:=rv) hs' hd0 hds pJ hs1 (nV hf d (by simp)) (q:=none) (fun g o h=>by cases h) hw hn hopen hys (by simpa using hp) hval
      refine⟨fun x=>if x=d then q' else β x,hk,fun hgn=>hp.drawn (hN hgn),fun _=>⟨?_,fun x hx=>?_,fQ fun y blk hy=>?_⟩⟩
      · rw[D6]
        exact r2
      · have hd':d<ah:=nV hf d (by simp)
        exact if_neg (by omega)
      · simp only[List.mem_cons,Prod.mk.injEq,List.not_mem_nil,or_false]at hy
        rcases hy with ⟨rfl,rfl⟩ | ⟨rfl,rfl⟩
        · exact .inl (nV hf y (by simp))
        · exact .inl hs1
    · exact⟨β,hk,fun hgn=>hp.drawn (hN hgn),fun h=>absurd h hf⟩
  · next g =>
    split at hk
    · next ef xs hg0 =>
      have hg:=hsub _ _ hg0
      obtain⟨g1,hk2⟩:=mO hk
      obtain⟨g2,hk3⟩:=mO hk2
      clear hk hk2
      simp only[qBa]at g1
      obtain⟨hks,hgl,hgs⟩:=g1
      have hks:ef=el:=by simpa using hks
      subst hks
      have hgl:g<100000:=(Nat.blt_eq▸hgl:_)
      have hgs:g≠s:=by simpa using hgs
      have g2:xs.length+m≤2147483648:=by simpa using g2
      have hig:(look st.heap g).isSome=true:=by rw[hg];rfl
      obtain⟨q,e1,e2,hsubs⟩:=row_of r hg h1
      refine⟨q,_,(fun x o h=>(r.own g x o hig (e2 x o h)).1),⟨hw,hn,hop,h0,e1,XU hsubs,fun o h=>?_⟩,by simp only[List.length_map];exact g2,fun N w' hN hp=>?_⟩
      · exact hgs (r.inj g s b o 0 hig his (e2 b o h) pJ)
      · have r1:=r.strike (M':=M) [g] (fun _ h=>h) (fun _ h=>.inl h)
        obtain⟨d0,d1,hs'⟩:=BX r hs (ss:=[g]) (by simpa using Ne.symm hgs)
        have hg':look (st.strike [g]).heap g=none:=by rw[bU,if_pos (by simp)]
        have hq:∀ x o,q=some (x,o)→¬ M x∧x<w.heap.size∧((w0.heap.size≤x∨Pr x)∧(w0.n0≤x∨ah≤g))∧∀ s' o',(look (st.strike [g]).heap s').isSome=true→β s'≠some (x,o'):=by
         intro x o h
         have ho':=e2 x o h
         obtain⟨k1,k2,k3⟩:=r.own g x o hig ho'
         refine⟨k1,k2,k3,fun s' o'' hs' adn=>?_⟩
         rw[bU]at hs'
         by_cases hm:s'∈[g]
         · rw[if_pos hm]at hs';cases hs'
         · rw[if_neg hm]at hs'
           have:=r.inj s' g x o'' o (by simpa using hs') hig adn ho'
           exact hm (by simp[this])
        obtain⟨q',r2⟩:=r1.built (d:=some d) (v:=val) (c:=rv) hs' hg' hgs pJ hs1 hgl hq hw hn hopen (ys:=xs++ys) (by
         intro y hy
         rcases List.mem_append.1 hy with h | h
         · exact hsubs y h
         · exact hys y h) (by simpa using hp) hval
        refine⟨{ val:=val,mD:=[(g,.br ef (xs++ys)),(s,.tb t (.ptr s 0 0) (.mref g))],cut:=[g] },M,fun x=>if x=g then q' else β x,hk3,fun hgn=>hp.drawn (hN hgn),fun _=>⟨?_,fun x hx=>?_,fQ fun y blk hy=>?_⟩⟩
        · exact Rel.congr r2 (hp:=(st.apply (some d) { val:=val,mD:=[(g,.br ef (xs++ys)),(s,.tb t (.ptr s 0 0) (.mref g))],cut:=[g] }).heap) fun x=>XV st (some d) val x
        · have hx:100000≤x:=hx
          exact if_neg (by omega)
        · simp only[List.mem_cons,Prod.mk.injEq,List.not_mem_nil,or_false]at hy
          rcases hy with ⟨rfl,rfl⟩ | ⟨rfl,rfl⟩
          · exact .inl hgl
          · exact .inl hs1
    · simp[DT.run]at hk
  · simp[DT.run]at hk
theorem Tf {xs:List PV} (h:∀ x∈xs,x.isByte=true):xs.map iL=sU (bytesOf xs).data.toList:=by
 unfold sU bytesOf
 simp only[List.map_map]
 refine List.map_congr_left fun x hx=>?_
 have:=h x hx
 unfold PV.isByte at this
 split at this
 · next n =>
   simp only[qBa,qDa]at this
   have e:(UInt8.ofNat n.toNat).toNat=n.toNat:=by
    rw[UInt8.toNat_ofNat']
    omega
   simp only[iL,Function.comp_apply,PV.toInt,e]
   rw[Int.toNat_of_nonneg this.1]
 · cases this
theorem OY {k:Kd} {v:PV} (h:v.Qj k=true):∃ xs,v=.full false [k] xs∧0<xs.length:=by
 unfold PV.Qj at h
 split at h
 · rename_i l xs
   simp only[qBa]at h
   have:=Kd.beq_eq _ _ h.1
   subst this
   exact⟨xs,rfl,by simpa [Nat.blt_eq] using h.2⟩
 · cases h
theorem Ti {h : Nat → Option aJ} {k : Kd} {xs : List PV} {c : Value} (hc : AR w M β h (.p (.full false [k] xs)) c) (h0 : 0 < xs.length) :
    ∃ b o,c=.slice (some ⟨b,o,none⟩) xs.length xs.length∧M b∧∀ (i:Nat) (x:PV),xs[i]?=some x→∃ v,w.cell? ⟨b,o+i,none⟩=some v∧VR w M x v∧kindOk k x=true:=by
  cases hc with
  | p _ _ hv =>
  cases hv with
  | F7=>simp at h0
  | full _ _ _ b o f hM hc hv hs =>
   refine⟨b,o,rfl,hM,fun i x hx=>?_⟩
   have hsh:=hs x (qLe hx)
   have hk:kindOk k x=true:=by simpa [au] using hsh
   have hl:=iC hk
   have hcell:x.cells[0]?=some x:=by
    cases x<;>first | rfl | (simp[PV.leaf]at hl)
   have:=hc i x 0 x hx hcell
   refine⟨_,?_,hv i x 0 x hx hcell,hk⟩
   simpa using this
theorem ZL (ok : bJ P T) {C : aA} (hG : fZ P T w0.gl C) (r : Rel w0 Pr M0 M β st a w) {h' : Nat → Option aJ} (hsub : ∀ s b,h' s = some b → look st.heap s = some b) {f : Nat} {args : List AV} {aF : Array Value} (hp : (iY T f).Bd.is = true)
    (hargs:lV w M β (look st.heap) args aF.toList) (he:(execOp a.eval o).run P w=(callFunc f aF).run P w):dF P w0 Pr M0 β st a w o (cond true (KW (iY T f).Bd (iY T f).Hr (iY T f).KL h' o.dst args) (oO T C h' o.dst f args)):=by
  simp only[cond_true]
  obtain⟨fi,hf,akA⟩:∃ fi,bI T.funcs f=some fi∧iY T f=fi.cfg:=by
   unfold iY at hp ⊢
   cases hf:bI T.funcs f with
   | none=>rw[hf]at hp;cases hp
   | some fi=>exact⟨fi,rfl,rfl⟩
  rw[akA]at hp ⊢
  obtain⟨hbody,hC⟩:=ok.ae2 f fi hf hp
  refine⟨fun hnd α k res hk rd n Q=>?_⟩
  have call : ∀ (R : Ending → World → Prop),Calls P f aF w R → (∀ e w',R e w' → ∃ rv,e = .returned rv ∧ ((∃ c,a.put o.dst rv = a.put o.dst c) ∧ ∃ e M' β',k e = some res ∧ iH w0.gl w.drawn w'.drawn ∧ (gU (e.new ++ e.xE) = true →
      Rel w0 Pr M0 M' β' (st.apply o.dst e) (a.put o.dst rv) w'∧(∀ s,ah≤s→β' s=β s)∧iQ st.heap (st.apply o.dst e).heap))) →
      Oper.wpIn (FW rd) n P o a w (fun a' w'=>(∃ c,a'=a.put o.dst c)∧∃ e M' β',k e=some res∧iH w0.gl w.drawn w'.drawn∧(gU (e.new++e.xE)=true →
      Rel w0 Pr M0 M' β' (st.apply o.dst e) a' w'∧(∀ s,ah≤s→β' s=β s)∧iQ st.heap (st.apply o.dst e).heap)) Q:=by
    intro R LZ hR
    refine uG hnd ?_
    rw[he,Dn ok hf hbody,Oper.uponIn_enter]
    refine⟨yB rd,dJ rd ?_⟩
    refine Calls.mono LZ fun e w' h=>?_
    obtain⟨rv,rfl,h1,h2⟩:=hR e w' h
    exact⟨h1,h2⟩
  unfold KW at hk
  split at hk
  · next d lf s x y hd hpr =>
    split at hk
    · next t c0 c1 hs0 =>
      have hs:=hsub _ _ hs0
      have his:(look st.heap s).isSome=true:=by rw[hs];rfl
      obtain⟨g1,hk2⟩:=mO hk
      obtain⟨gf,hk2⟩:=mO hk2
      obtain⟨gn,hk2⟩:=mO hk2
      simp only[qBa]at g1 gf
      obtain⟨gt,ga,gl⟩:=g1
      obtain⟨gx,gy⟩:=gf
      have gl:s<ah:=(Nat.blt_eq▸gl:_)
      obtain⟨ca,cb,cc,hca⟩:∃ ca cb cc,aF=#[ca,cb,cc]:=by
       have:=hargs.1
       simp only[List.length_cons,List.length_nil,Array.length_toList]at this
       exact⟨aF[0],aF[1],aF[2],by
        apply Array.ext
        · simp;omega
        · intro i h1 h2
          have:i=0∨i=1∨i=2:=by simp at h2;omega
          rcases this with rfl | rfl | rfl<;>rfl⟩
      subst hca
      have ha:=hargs.2 0 _ ca rfl rfl
      have hb:=hargs.2 1 _ cb rfl rfl
      have hc:=hargs.2 2 _ cc rfl rfl
      obtain⟨xs,rfl,hx0⟩:=OY gx
      obtain⟨ys,rfl,hy0⟩:=OY gy
      obtain⟨w1,o1,rfl,hM1,hW1⟩:=Ti hb hx0
      obtain⟨w2,o2,rfl,hM2,hW2⟩:=Ti hc hy0
      obtain⟨b,C',fr,q1,rfl,q2,q3,q4,q5,q6⟩:=WJ r hs ha
      obtain⟨q,cs,kM,k1,k2,k3⟩:=QA r hsub (rv:=.tuple #[]) hs q1 q2 q3 q4 (Td hs q1 ga q5) q6 gl (Gi _) (by simp[uX]) (fun w' h' β'=>.nJ _ _ rfl fun i c hi=>by simp at hi) (fun ss=>by simp[AV.refers,AV.fK]) hk2
      rw[hpr]at hC
      have hnb:∀ g,M g→g≠b:=fun g hg e=>(r.own s b 0 his q1).1 (e▸hg)
      have hnq:∀ g,M g→∀ o,q≠some (g,o):=fun g hg o e=>kM g o e hg
      refine call _ (hC t (Ie gt) w b q cs C' fr xs ys w1 o1 w2 o2 k1 (fun i x hx=>?_) (fun i y hy=>?_) hx0 hy0 (r.fB _ hM1) (r.fB _ hM2) (hnb _ hM1) (hnb _ hM2) (hnq _ hM1) (hnq _ hM2) k2 w0.gl.isSome (hG.glob w fun p hp=>(r.glob p hp).2)) fun e w' hR=>?_
      · obtain⟨c,hc1,hc2,hc3⟩:=hW1 i x hx
        cases x<;>simp[kindOk]at hc3
        cases hc2
        exact⟨_,rfl,hc1⟩
      · obtain⟨c,hc1,hc2,hc3⟩:=hW2 i y hy
        cases y<;>simp[kindOk]at hc3
        subst hc3
        have hin:=List.all_eq_true.1 gn _ (qLe hy)
        simp only[PV.Ag,qBa,qDa]at hin
        cases hc2
        exact⟨_,⟨rfl,hin.1,hin.2⟩,hc1⟩
      · obtain⟨rfl,hput⟩:=hR
        rw[← L6]at hput
        obtain⟨e,M',β',z1,z2,z3⟩:=k3 (w0.gl.isSome=false) w' (fun h=>by rw[h];rfl) hput
        rw[hd]
        exact⟨_,rfl,⟨_,rfl⟩,e,M',β',z1,z2,z3⟩
    · simp[DT.run]at hk
  · next d s hd hpr =>
    split at hk
    · next t c0 c1 hs0 =>
      have hs:=hsub _ _ hs0
      have his:(look st.heap s).isSome=true:=by rw[hs];rfl
      obtain⟨g1,hk2⟩:=mO hk
      simp only[qBa]at g1
      obtain⟨gt,ga,gl⟩:=g1
      have gl:s<ah:=(Nat.blt_eq▸gl:_)
      obtain⟨ca,hca⟩:∃ ca,aF=#[ca]:=by
       have:=hargs.1
       simp only[List.length_cons,List.length_nil,Array.length_toList]at this
       exact⟨aF[0],by
        apply Array.ext
        · simp;omega
        · intro i h1 h2
          have:i=0:=by simp at h2;omega
          subst this;rfl⟩
      subst hca
      have ha:=hargs.2 0 _ ca rfl rfl
      obtain⟨b,C',fr,q1,rfl,q2,q3,q4,q5,q6⟩:=WJ r hs ha
      have h0:=Td hs q1 ga q5
      rw[hpr]at hC
      have fin : ∀ (q : Option (Nat × Nat)) (x : ByteArray) (w' : World),F9 True w b q w' → w'.heap[b]? = w.heap[b]? → (∀ g0 o,q = some (g0,o) → ∃ g e xs,g < ah ∧ look st.heap g = some (.br e xs) ∧ β g = some (g0,o) ∧ ∃ C e' fr fr',w.heap[g0]? = some (.cells C e' fr) ∧ w'.heap[g0]? = some (.cells C e' fr') ∧ Past xs.length fr') →
          Rel w0 Pr M0 M β (st.apply (some d) { val:=.p (.str x) }) (a.put (some d) (.string x)) w':=by
        intro q x w' hkp hbk hgq
        have hkq:∀ k,k<w.heap.size→(∀ o,q≠some (k,o))→w'.heap[k]?=w.heap[k]?:=fun k hk hq=>by
         by_cases e:k=b
         · rw[e];exact hbk
         · exact hkp.keep k hk e hq
        have r2:Rel w0 Pr M0 M β { st with heap:=st.heap } a w':=by
         refine r.LU (hp':=st.heap) hkp.size hkp.os hkp.tape hkp.output (fun k hk hc=>hkq k hk fun o e=>?_) (fun k n hk hc hr=>?_) (fun _ h=>h) (fun _ h=>.inl h) (fun _ h=>h) (fun y blk hy=>?_)
         · obtain⟨g,e',xs,gl0,g1,g2,-⟩:=hgq k o e
           obtain⟨m1,m2,m3⟩:=r.own g k o (by rw[g1];rfl) g2
           rcases hc with h | ⟨h1,h2⟩
           · exact m1 h
           · rcases m3.1 with h | h
             · omega
             · exact h2 h
         · by_cases hq:∃ o,q=some (k,o)
           · obtain⟨o,e⟩:=hq
             obtain⟨g,e',xs,gl0,g1,g2,C,e2,fr,fr',c1,c2,c3⟩:=hgq k o e
             obtain⟨C1,e3,Ug,h1,h2,h3⟩:=hr
             rw[c1]at h1;cases h1
             obtain⟨m1,m2,m3⟩:=r.own g k o (by rw[g1];rfl) g2
             rcases hc with ⟨s',o',blk,q1',q2',q3'⟩ | ⟨q1',q2'⟩
             · have hsg:=r.inj s' g k o' o (by rw[q1'];rfl) (by rw[g1];rfl) q2' g2
               subst hsg
               rw[g1]at q1';cases q1'
               have q3':n%2=1:=q3'
               exact⟨C,e2,fr',c2,h2,fun h=>by omega⟩
             · rcases m3.2 with h | h
               · omega
               · omega
           · exact hr.of_block (hkq k hk fun o e=>hq ⟨o,e⟩)
         · by_cases hq:∃ g0 o,q=some (g0,o)∧β y=some (g0,o)
           · obtain⟨g0,o,e,akC⟩:=hq
             obtain⟨g,e',xs,gl0,g1,g2,C,e2,fr,fr',c1,c2,c3⟩:=hgq g0 o e
             have hyg:y=g:=r.inj y g g0 o o (by rw[hy];rfl) (by rw[g1];rfl) akC g2
             subst hyg
             rw[g1]at hy;cases hy
             refine⟨_,g1,.inr ⟨Like.refl _,?_⟩⟩
             cases r.heap y _ g1 with
             | EH=>exact .EH _
             | br _ _ b' C2 fr2 k1 k2 k3 k4 k5 k6 =>
              rw[g2]at k1;cases k1
              rw[c1]at k2;cases k2
              exact .br _ _ g0 C fr' g2 c2 k3 c3 k5 k6
           · refine⟨blk,hy,.inl ⟨rfl,fun k o hk=>hkq k (r.own y k o (by rw[hy];rfl) hk).2.1 fun o' e=>?_⟩⟩
             obtain⟨g,e',xs,gl0,g1,g2,-⟩:=hgq k o' e
             have hyg:y=g:=r.inj y g k o o' (by rw[hy];rfl) (by rw[g1];rfl) hk g2
             subst hyg
             exact hq ⟨k,o',e,g2⟩
        have e:st.apply (some d) { val:=.p (.str x) }={ env:=Skm.setEnv st.env (some d) (.p (.str x)),heap:=st.heap }:=by
         simp only[St.apply,present,List.nil_append,dZ];rfl
        rw[e]
        exact r2.setEnv (some d) (.p _ _ (.str x))
      split at hk2
      · have hC1 : C'.getD 1 undef = .slice none 0 0 := by
          generalize C'.getD 1 undef=u at q6
          cases q6 with
          | p _ _ hv=>cases hv;rfl
        refine call _ (hC t (Ie gt) w b none [] C' fr ⟨q2,q3,q4,h0,.inl ⟨rfl,rfl,hC1⟩,by simp[sU],by simp⟩ (by simp)) fun e w' hR=>?_
        obtain⟨rfl,hkp,hbk,-⟩:=hR
        rw[hd]
        refine⟨_,rfl,⟨_,rfl⟩,_,M,β,hk2,fun _=>hkp.drawn trivial,fun hf=>⟨?_,fun _ _=>rfl,fQ Di⟩⟩
        exact fin none ByteArray.empty w' hkp hbk (fun g o h=>by cases h)
      · next g =>
        split at hk2
        · next ef xs hg0 =>
          have hg:=hsub _ _ hg0
          obtain⟨m1,hk3⟩:=mO hk2
          obtain⟨mL,hk3⟩:=mO hk3
          have mL:xs.length≤2147483648:=of_decide_eq_true mL
          obtain⟨m2,hk4⟩:=mO hk3
          simp only[qBa]at m1
          obtain⟨hks,hgl,hgs⟩:=m1
          have hks:ef=fi.cfg.KL:=by simpa using hks
          subst hks
          have hgl:g<ah:=(Nat.blt_eq▸hgl:_)
          have hgs:g≠s:=by simpa using hgs
          have hig:(look st.heap g).isSome=true:=by rw[hg];rfl
          obtain⟨q,e1,e2',e4⟩:=row_of r hg q6
          have hall:∀ x∈xs,x.isByte=true:=by
           rw[List.all_eq_true]at m2;exact m2
          rw[Tf hall]at e1
          refine call _ (hC t (Ie gt) w b q _ C' fr ⟨q2,q3,q4,h0,e1,fun c hc=>?_,fun o h=>?_⟩ (by simpa [bytesOf] using mL)) fun e w' hR=>?_
          · obtain⟨x,_,rfl⟩:=List.mem_map.1 hc
            exact⟨_,rfl⟩
          · exact hgs (r.inj g s b o 0 hig his (e2' b o h) q1)
          · obtain⟨rfl,hkp,hbk,hmk⟩:=hR
            rw[hd]
            refine⟨_,rfl,⟨_,rfl⟩,_,M,β,hk4,fun _=>hkp.drawn trivial,fun hf=>⟨?_,fun _ _=>rfl,fQ Di⟩⟩
            refine fin q _ w' hkp hbk (fun g0 o h=>?_)
            obtain⟨C2,e2,fr2,fr',c1,c2,c3⟩:=hmk g0 o h
            exact⟨g,_,xs,hgl,hg,e2' g0 o h,C2,e2,fr2,fr',c1,c2,by simpa [bytesOf] using c3⟩
        · simp[DT.run]at hk2
      · simp[DT.run]at hk2
    · simp[DT.run]at hk
  · simp[DT.run]at hk
end
end Go.Skm
namespace Go.Skm
section
variable {P:Program} {T:Tab} {w0:Base} {Pr M0 M:Nat→Prop} {β:Nat→Option (Nat × Nat)} {st:St} {a:Act} {w:World} {o:Oper}
theorem Rel.more (r : Rel w0 Pr M0 M β st a w) {M' : Nat → Prop} (h1 : ∀ b,M b → M' b)
    (h2:∀ b,M' b→M b∨(b<w.heap.size∧(w0.n0≤b∧(w0.heap.size≤b∨Pr b))∧∀ s o,(look st.heap s).isSome=true→β s≠some (b,o))):Rel w0 Pr M0 M' β st a w:=by
  have hM:∀ b,M b→M' b∧w.heap[b]?=w.heap[b]?:=fun b h=>⟨h1 b h,rfl⟩
  have key:∀ (v:AV) (c:Value),AR w M β (look st.heap) v c→AR w M' β (look st.heap) v c:=fun v c h =>
   h.mono hM fun s blk _ hl=>⟨blk,hl,Like.refl _,rfl,fun _ _ _ _ h=>h⟩
  refine⟨r.lC,fun t v h=>key _ _ (r.env t v h),fun s blk hl=>?_,fun s b o hl hb=>?_,r.inj,fun b h=>?_,fun b h=>?_,fun b h=>h1 b (r.oD b h),r.keep,r.room,r.size,r.os,r.tape,r.output,fun p hp=>⟨h1 _ (r.glob p hp).1,(r.glob p hp).2⟩⟩
  · cases r.heap s blk hl with
    | box cs b o C e fr g1 g2 g3 g4 g5 g6=>exact .box _ b o C e fr g1 g2 g3 g4 g5 fun j c hc=>key _ _ (g6 j c hc)
    | gY a ks=>exact .gY a ks
    | log on ys=>exact .log on ys
    | arr a ks xs b o C e fr g1 g2 g3 g4 g5 g6=>exact .arr a ks xs b o C e fr g1 g2 g3 g4 g5 fun i x j c hx hc=>(g6 i x j c hx hc).mono hM
    | tb t c0 c1 b C fr g1 g2 g3 g4 g5 g6 g7 g8=>exact .tb t c0 c1 b C fr g1 g2 g3 g4 g5 g6 (key _ _ g7) (key _ _ g8)
    | mp t es b o E k g1 g2 g3 g4=>exact .mp t es b o E k g1 g2 g3 fun i p e hi he=>⟨(g4 i p e hi he).1.mono hM,(g4 i p e hi he).2.mono hM⟩
    | EH e=>exact .EH e
    | br e xs b C fr g1 g2 g3 g4 g5 g6=>exact .br e xs b C fr g1 g2 g3 g4 g5 g6
  · obtain⟨g1,g2,g3⟩:=r.own s b o hl hb
    refine⟨fun h=>?_,g2,g3⟩
    rcases h2 b h with h | ⟨_,_,h⟩
    · exact g1 h
    · exact h s o hl hb
  · rcases h2 b h with h | ⟨h,_⟩
    · exact r.fB b h
    · exact h
  · rcases h2 b h with h | ⟨_,h,_⟩
    · exact r.jQ b h
    · exact .inr h
theorem BZ {keep:Bool} {b0 b1:aJ} (s:Nat):look (jd keep [b0,b1]) s=if s=ah then some b0 else if s=bV keep then some b1 else none:=by
 simp only[jd,look]
 by_cases h:s=ah
 · subst h;simp
 · have:(ah==s)=false:=by simp;exact fun e=>h e.symm
   rw[this,if_neg h]
   simp only[cond_false]
   by_cases h':s=bV keep
   · subst h';simp
   · have:(bV keep==s)=false:=by simp;exact fun e=>h' e.symm
     rw[this,if_neg h'];rfl
theorem L8 (keep:Bool):bV keep≠ah:=by cases keep<;>simp[bV,ah]
theorem L9 {β:Type}:∀ {l:List β} {r:List β} {x:β},qC l=some (r,x)→l=r++[x]
 | [],r,x,h=>by cases h
 | [y],r,x,h=>by simp[qC]at h;obtain⟨rfl,rfl⟩:=h;rfl
 | y::z::l,r,x,h=>by
  simp only[qC]at h
  split at h
  · rename_i r' x' e
    simp only[qOa,Prod.mk.injEq]at h
    obtain⟨rfl,rfl⟩:=h
    rw[L9 e];rfl
  · cases h
theorem Va {h:Nat→Option aJ} {pre:List AV} {v:AV} {cs:List Value} (hl:lV w M β h (pre++[v]) cs):AR w M β h v (cs.getD pre.length undef)∧∀ (i:Nat) (x:AV) (c:Value),pre[i]?=some x→cs[i]?=some c→AR w M β h x c:=by
 have hn:cs.length=pre.length+1:=by have:=hl.1;simp at this;omega
 refine⟨?_,fun i x c hi hc=>hl.2 i x c (by rw[List.getElem?_append_left (qLa.1 hi).1];exact hi) hc⟩
 have hc:cs[pre.length]?=some (cs.getD pre.length undef):=by
  rw[qLb,qLd (by omega)];rfl
 exact hl.2 pre.length v _ (by simp) hc
theorem BR.Gj {w:World} {M M':Nat→Prop} {β β':Nat→Option (Nat × Nat)} {h h':Nat→Option aJ} {s s':Nat} {sa:Bool} {ks:List Kd} {xs:List PV} (hM:∀ b,M b→M' b) (hb:BR w M β h s (.arr sa ks xs)) (e:β' s'=β s):BR w M' β' h' s' (.arr sa ks xs):=by
 cases hb with
 | gY=>exact .gY _ _
 | arr _ _ _ b o C e' fr g1 g2 g3 g4 g5 g6=>exact .arr _ _ _ b o C e' fr (e.trans g1) g2 g3 g4 g5 fun i x j c h1 h2=>(g6 i x j c h1 h2).mono fun b h=>⟨hM b h,rfl⟩
theorem OZ (ok : bJ P T) {C : aA} (hC : fZ P T w0.gl C) (r : Rel w0 Pr M0 M β st a w) {h' : Nat → Option aJ} (hsub : ∀ s b,h' s = some b → look st.heap s = some b) {d f : Nat} {fi : FI} {pre : List AV} {aF : Array Value}
    {s A:Nat} {nw:List Nat} {sa:Bool} {ks:List Kd} {off len:Nat} {xs:List PV} {v:AV}
    (hd:o.dst=some d) (hf:bI T.funcs f=some fi) (D7:fi.cfg.vcall=true) (hargs:lV w M β (look st.heap) (pre++[.ptr s 0 0]) aF.toList) (he:(execOp a.eval o).run P w=(callFunc f aF).run P w)
    (hs:look st.heap s=some (.box [v]))
    (hcase:(nw=[]∧look st.heap A=some (.arr sa ks xs)∧∃ z,v=.slice A z off len)∨(nw=[A]∧v=.p .nil∧off=0∧len=0∧xs=[]∧fi.cfg.vkeep=false)) :
    dF P w0 Pr M0 β st a w o (KX T C h' d f fi pre s A nw sa ks off len xs):=by
  unfold KX
  cases hdp:DV h' pre with
  | none=>exact⟨fun _ _ _ _ hk=>by simp[DT.run]at hk⟩
  | some q =>
  obtain⟨vs,ss⟩:=q
  simp only
  cases Mc:(Nat.blt s 100000&&(Nat.blt A 100000&&!(A==s)))&&(!(dR s ss)&&!(dR A ss)) with
  | false=>exact⟨fun _ _ _ _ hk=>by simp[DT.run]at hk⟩
  | true =>
  simp only[qBa,qBb,Nat.blt_eq]at Mc
  obtain⟨⟨hs1,hA1,hAs⟩,hss,XW⟩:=Mc
  have hAs:A≠s:=by simpa using hAs
  have hss:s ∉ ss:=dL.1 hss
  have XW:A ∉ ss:=dL.1 XW
  have hsA:s≠A:=fun e=>hAs e.symm
  simp only[cond_true]
  refine⟨fun hnd α k res hk rd n Q=>?_⟩
  obtain⟨⟨rs,pG⟩,hcall,hk⟩:=OX hk
  obtain⟨hbody,LZ⟩:=hC.var f fi _ _ _ _ _ _ _ rs pG hf D7 hcall
  obtain⟨ae9,hpre0⟩:=Va hargs
  have hnum:aF.size=pre.length+1:=by have:=hargs.1;simp at this;omega
  have hargs0:lV w M β (look st.heap) pre (aF.toList.take pre.length):=by
   refine⟨by simp;omega,fun i x c hi hc=>?_⟩
   rw[List.getElem?_take]at hc
   split at hc
   · exact hpre0 i x c hi hc
   · cases hc
  obtain⟨d1,d2,d3⟩:=Gf (fun s b h=>r.heap s b (hsub s b h)) hsub hdp hargs0
  have d1:vs.length=pre.length:=by rw[d1];simp;omega
  cases hres:tH T d [] 0 fi.cfg.rets fi.fn.resultTypes.toList rs with
  | none=>rw[hres]at hk;simp[DT.run]at hk
  | some xb =>
  obtain⟨rv,bs⟩:=xb
  rw[hres]at hk
  cases bs with
  | cons x y=>simp[DT.run]at hk
  | nil =>
  simp only[DT.run]at hk
  refine uG hnd ?_
  rw[he,Dn ok hf hbody,Oper.uponIn_enter]
  refine⟨yB rd,dJ rd ?_⟩
  have his:(look st.heap s).isSome=true:=by rw[hs];rfl
  let pA:Option (Nat × Nat):=match nw with | []=>β A | _=>none
  have hpA:∀ b o,pA=some (b,o)→nw=[]∧look st.heap A=some (.arr sa ks xs)∧β A=some (b,o):=by
   intro b o h
   rcases hcase with ⟨rfl,h1,_⟩ | ⟨rfl,_⟩
   · exact⟨rfl,h1,h⟩
   · have e:pA=none:=rfl
     rw[e]at h;cases h
  have akD:nw=[]→pA=β A:=by
   intro h
   subst h
   rfl
  let βc:Nat→Option (Nat × Nat):=fun x=>if x=ah then β s else if x=bV fi.cfg.vkeep then pA else none
  have bc0:βc ah=β s:=by simp[βc]
  have bc1:βc (bV fi.cfg.vkeep)=pA:=by simp[βc,L8]
  have hlv:=fun x=>BZ (keep:=fi.cfg.vkeep) (b0:=.box [.slice (bV fi.cfg.vkeep) ks.length off len]) (b1:=.arr sa ks xs) x
  have hl0:=hlv ah
  rw[if_pos rfl]at hl0
  have hl1:=hlv (bV fi.cfg.vkeep)
  rw[if_neg (L8 _),if_pos rfl]at hl1
  have live:∀ x,(look (jd fi.cfg.vkeep [.box [.slice (bV fi.cfg.vkeep) ks.length off len],.arr sa ks xs]) x).isSome=true→x=ah∨x=bV fi.cfg.vkeep:=by
   intro x hx
   rw[hlv x]at hx
   by_cases h1:x=ah
   · exact .inl h1
   · rw[if_neg h1]at hx
     by_cases h2:x=bV fi.cfg.vkeep
     · exact .inr h2
     · rw[if_neg h2]at hx;cases hx
  have hup:∀ b,M b→bD M β ss b:=fun b h=>.inl h
  have abu:∀ x b o,(look st.heap x).isSome=true→β x=some (b,o)→x ∉ ss→¬ bD M β ss b:=by
   intro x b o hx hb hn hm
   rcases hm with hm | ⟨s',o',hs',hb'⟩
   · exact(r.own x b o hx hb).1 hm
   · exact hn (by rw[r.inj x s' b o o' hx (d3 s' hs') hb hb'];exact hs')
  have hpre:Qx fi.cfg.vkeep w (bD M β ss) βc (cond fi.cfg.zJ (vs.map .p) (normArgs T fi.fn.params.toList vs)++[.ptr ah 0 0]) [.box [.slice (bV fi.cfg.vkeep) ks.length off len],.arr sa ks xs] aF:=by
   have hlen:(cond fi.cfg.zJ (vs.map .p) (normArgs T fi.fn.params.toList vs)).length=pre.length:=by cases fi.cfg.zJ<;>simp[d1,sF]
   refine⟨by simp[hlen,hnum],fun i x hi=>?_,fun x b hx=>?_,fun x b o hx hb=>?_,fun x y b o o' hx hy hb hb'=>?_,fun b hb=>?_⟩
   · by_cases hi':i<pre.length
     · rw[List.getElem?_append_left (by rw[hlen];exact hi')]at hi
       obtain⟨y,hy,hv⟩:=I4 (T:=T) (w:=w) fi.cfg.zJ _ _ i x hi
       have hc:(aF.toList.take pre.length)[i]?=some (aF.getD i undef):=by
        rw[List.getElem?_take,if_pos hi',qLd (by simp;omega)]
        have:i<aF.size:=by omega
        simp[this]
       exact hv _ _ _ _ (d2 i y _ hy hc)
     · have e : i = pre.length := by
         have:=(qLa.1 hi).1
         simp[hlen]at this;omega
       subst e
       rw[List.getElem?_append_right (by rw[hlen];exact Nat.le_refl _),hlen,Nat.sub_self]at hi
       simp at hi;subst hi
       have e:aF.getD pre.length undef=aF.toList.getD pre.length undef:=by
        rw[qAb,qLb,Array.getElem?_toList]
       rw[e]
       generalize aF.toList.getD pre.length undef=u at ae9
       cases ae9 with
       | ptrB _ _ cs b o h1 hb=>exact .ptrB ah 0 _ b o hl0 (bc0.trans hb)
       | ptrA _ _ _ a ks xs b o h1 hi hb=>rw[hs]at h1;cases h1
       | ptrT _ _ t c0 c1 b h1 hb=>rw[hs]at h1;cases h1
   · rcases live x (by rw[hx];rfl) with rfl | rfl
     · rw[hl0]at hx;cases hx
       cases r.heap s _ hs with
       | box _ b o C e fr g1 g2 g3 g4 g5 g6 =>
        refine .box _ b o C e fr (bc0.trans g1) g2 g3 g4 (fun c hc=>by simp at hc;subst hc;rfl) fun j c hj=>?_
        cases j with
        | succ j=>simp at hj
        | zero =>
         simp at hj;subst hj
         have hv:=g6 0 v rfl
         rcases hcase with ⟨rfl,hA,z,rfl⟩ | ⟨rfl,rfl,rfl,rfl,rfl,hk⟩
         · have hz : z = ks.length := by
             generalize C.getD (o+0) undef=u at hv
             cases hv with
             | slice _ _ _ a' ks' xs' b' o' cap h1 hl hb hcap hr=>rw[hA]at h1;cases h1;rfl
             | sliceE _ _ a' ks' xs' base h1 hl=>rw[hA]at h1;cases h1;rfl
           subst hz
           exact hv.jv hA hl1 bc1
         · generalize C.getD (o+0) undef=u at hv
           cases hv with
           | p _ _ hv=>cases hv;exact .sliceE _ 0 sa ks [] none hl1 (by simp)
     · rw[hl1]at hx;cases hx
       rcases hcase with ⟨rfl,hA,z,rfl⟩ | ⟨rfl,rfl,rfl,rfl,rfl,hk⟩
       · exact(r.heap A _ hA).Gj hup bc1
       · exact .gY _ _
   · rcases live x hx with rfl | rfl
     · rw[bc0]at hb
       exact⟨abu s b o his hb hss,(r.own s b o his hb).2.1⟩
     · rw[bc1]at hb
       obtain⟨_,hA,hb⟩:=hpA b o hb
       have hiA:(look st.heap A).isSome=true:=by rw[hA];rfl
       exact⟨abu A b o hiA hb XW,(r.own A b o hiA hb).2.1⟩
   · rcases live x hx with rfl | rfl<;>rcases live y hy with rfl | rfl
     · rfl
     · rw[bc0]at hb;rw[bc1]at hb'
       obtain⟨_,hA,hb'⟩:=hpA b o' hb'
       exact absurd (r.inj s A b o o' his (by rw[hA];rfl) hb hb') hsA
     · rw[bc1]at hb;rw[bc0]at hb'
       obtain⟨_,hA,hb⟩:=hpA b o hb
       exact absurd (r.inj s A b o' o his (by rw[hA];rfl) hb' hb) hsA
     · rfl
   · rcases hb with hb | ⟨s',o,hs',hb⟩
     · exact r.fB b hb
     · exact(r.own s' b o (d3 s' hs') hb).2.1
  refine Calls.mono (LZ w _ βc aF (fun p hp=>⟨.inl (r.glob p hp).1,(r.glob p hp).2⟩) hpre) fun e w' hpost=>?_
  obtain⟨cs,M',rfl,post⟩:=hpost
  refine⟨⟨_,rfl⟩,?_⟩
  show ∃ e M' β',_
  obtain⟨off',len',ys,bb,bo,Cb,eb,fb,p,rfl,q1,q2,q3,q4,q5,q6,q7,q8,q9⟩:=post.back
  rw[bc0]at q1
  have hkeep:∀ b,b<w.heap.size→b≠bb→(∀ o,pA≠some (b,o))→w'.heap[b]?=w.heap[b]?:=fun b hb h1 h2 =>
   post.keep b hb (fun o h=>by rw[bc0,q1]at h;cases h;exact h1 rfl) fun o h=>by rw[bc1]at h;exact h2 o h
  obtain⟨ob1,ob2,ob3,ob4⟩:=r.own s bb bo his q1
  have alR:ah=100000:=rfl
  have hnb:w0.n0≤bb:=by rcases ob4 with h | h<;>omega
  have hnA:∀ b o,pA=some (b,o)→¬ M b∧b<w.heap.size∧(w0.heap.size≤b∨Pr b)∧w0.n0≤b:=by
   intro b o h
   obtain⟨_,hA,hb⟩:=hpA b o h
   obtain⟨g1,g2,g3,g4⟩:=r.own A b o (by rw[hA];rfl) hb
   exact⟨g1,g2,g3,by rcases g4 with h | h<;>omega⟩
  have hvar:FH [aJ.box [.slice (bV fi.cfg.vkeep) ks.length off' len'],.arr sa ks ys]=ys:=rfl
  have hvV:zC [aJ.box [.slice (bV fi.cfg.vkeep) ks.length off' len'],.arr sa ks ys]=.slice (bV fi.cfg.vkeep) ks.length off' len':=rfl
  rw[hvar,hvV]at hk
  simp only[AV.Rz,AV.sLen]at hk
  obtain⟨β1,hh1,ps,ab6,hps⟩:=post.res
  by_cases hfz:¬ gU (nw++ss)=true
  · exact⟨_,M',β,hk,post.drawn,fun h=>absurd h hfz⟩
  have hfz:gU (nw++ss)=true:=Classical.not_not.1 hfz
  have r1:=r.freeze (present st.heap nw) ss (jF hfz).2 d3
  have hst1:∀ x,look (st.strike (present st.heap nw++ss)).heap x=if x∈present st.heap nw++ss then none else(look st.heap x).map (aJ.kill (present st.heap nw++ss)):=fun x=>bU _ x
  have hsn:s ∉ present st.heap nw++ss:=by
   intro hm
   rcases List.mem_append.1 hm with hm | hm
   · rcases hcase with ⟨rfl,_⟩ | ⟨rfl,_⟩
     · simp[present]at hm
     · have:=(mJ hm).1;simp at this;exact hsA this
   · exact hss hm
  have hs1':look (st.strike (present st.heap nw++ss)).heap s=some (.box [v]):=by
   rw[hst1,if_neg hsn,hs]
   show some (aJ.box [AV.kill _ v])=_
   congr 2
   rcases hcase with ⟨rfl,hA,z,rfl⟩ | ⟨rfl,rfl,_⟩
   · simp[AV.kill,AV.refers,present,dL.2 XW]
   · rfl
  have ado:nw=[]→look (st.strike (present st.heap nw++ss)).heap A=some (.arr sa ks xs):=by
   intro hn
   rcases hcase with ⟨_,hA,_⟩ | ⟨h,_⟩
   · rw[hst1,if_neg (by rw[hn];simpa [present] using XW),hA];rfl
   · rw[hn]at h;cases h
  have akE:nw≠[]→look (st.strike (present st.heap nw++ss)).heap A=none:=by
   intro hn
   rcases hcase with ⟨h,_⟩ | ⟨h,_⟩
   · exact absurd h hn
   · subst h
     rw[hst1]
     by_cases hm:A∈present st.heap [A]++ss
     · rw[if_pos hm]
     · rw[if_neg hm]
       cases hl:look st.heap A with
       | none=>rfl
       | some b=>exact absurd (List.mem_append.2 (.inl (oU (by simp) (by rw[hl];rfl)))) hm
  have ZM:∀ x,(look (st.strike (present st.heap nw++ss)).heap x).isSome=true→(look st.heap x).isSome=true:=fun x hx=>(SY hx).2
  generalize ab7:st.strike (present st.heap nw++ss)=st1 at r1 hs1' ado akE ZM
  have hpo:∀ b o,p=some (b,o)→¬ M' b∧b<w'.heap.size∧((w0.heap.size≤b∨Pr b)∧(w0.n0≤b∨ah≤A))∧b≠bb:=by
   intro b o hp
   obtain⟨g1,g2,g3,g4⟩:=q8 b o hp
   refine⟨g1,g2,?_,g3⟩
   rcases g4 with g4 | ⟨o',g4⟩
   · exact⟨.inl (by have:=r.size;omega),.inl (by have:=r.size;have:=w0.le';omega)⟩
   · rw[bc1]at g4
     obtain⟨_,_,k3,k4⟩:=hnA b o' g4
     exact⟨k3,.inl k4⟩
  have hpl:∀ b o,p=some (b,o)→∀ x o',x≠A→(look st1.heap x).isSome=true→β x≠some (b,o'):=by
   intro b o hp x o' hx hl hb
   obtain⟨_,_,_,g4⟩:=q8 b o hp
   rcases g4 with g4 | ⟨o'',g4⟩
   · have:=(r1.own x b o' hl hb).2.1;omega
   · rw[bc1]at g4
     obtain⟨_,hA,g4⟩:=hpA b o'' g4
     exact hx (r.inj x A b o' o'' (ZM x hl) (by rw[hA];rfl) hb g4)
  have hkM:∀ b,b<w.heap.size→(bD M β ss b∨(b<w0.heap.size∧¬ Pr b))→w'.heap[b]?=w.heap[b]?:=by
   intro b hb hm
   refine hkeep b hb (fun e=>?_) fun o h=>?_
   · subst e
     rcases hm with hm | ⟨h1,h2⟩
     · exact abu s b bo his q1 hss hm
     · rcases ob3 with h | h
       · omega
       · exact h2 h
   · obtain⟨g1,g2,g3,g4⟩:=hnA b o h
     obtain⟨_,hA,hb'⟩:=hpA b o h
     rcases hm with hm | ⟨h1,h2⟩
     · exact abu A b o (by rw[hA];rfl) hb' XW hm
     · rcases g3 with h | h
       · omega
       · exact h2 h
  have hput:∀ (hp:Heap) (x:Nat),look (dZ hp [(A,.arr sa ks ys),(s,.box [.slice A ks.length off' len'])]) x=if x=s then some (.box [.slice A ks.length off' len']) else if x=A then some (.arr sa ks ys) else look hp x:=by
   intro hp x
   show look (put (put hp A _) s _) x=_
   rw[aZ,aZ]
  have afa:SN st.heap [(A,.arr sa ks ys),(s,.box [.slice A ks.length off' len'])]:=by
   intro x b hx
   simp at hx
   rcases hx with ⟨rfl,_⟩ | ⟨rfl,_⟩
   · exact .inl hA1
   · exact .inl hs1
  cases hkp:fi.cfg.vkeep with
  | true =>
   rw[hkp]at hk bc1
   obtain⟨k1,k2,k3⟩:=q9 hkp
   rw[bc1]at k1
   have hn:nw=[]∧look st.heap A=some (.arr sa ks xs):=by
    rcases hcase with ⟨h1,h2,_⟩ | ⟨_,_,_,_,_,h⟩
    · exact⟨h1,h2⟩
    · rw[hkp]at h;cases h
   have ZN:pA=β A:=by
    exact akD hn.1
   have hA1:=ado hn.1
   have r2:Rel w0 Pr M0 M' β { st1 with heap:=dZ st1.heap [(A,.arr sa ks ys),(s,.box [.slice A ks.length off' len'])] } a w':=by
    refine r1.LU post.size post.os post.tape post.output hkM (fun b n hb h hr=>?_) post.fB (fun b hb=>?_) (fun x hx=>?_) (fun x blk hx=>?_)
    · rcases h with ⟨x,o,blk,h1,h2,h3⟩ | ⟨h1,h2⟩
      · by_cases e1:x=s
        · subst e1;rw[hs1']at h1;cases h1;exact h3.elim
        · by_cases e2:x=A
          · subst e2;exact k3 b o n (by rw[k1,ZN];exact h2) hr
          · refine hr.of_block (hkeep b hb (fun e=>?_) fun o' h=>?_)
            · subst e;exact e1 (r1.inj x s b o bo (by rw[h1];rfl) (by rw[hs1'];rfl) h2 q1)
            · rw[ZN]at h;exact e2 (r1.inj x A b o o' (by rw[h1];rfl) (by rw[hA1];rfl) h2 h)
      · refine hr.of_block (hkeep b hb (fun e=>by omega) fun o' h=>?_)
        have:=(hnA b o' h).2.2.2;omega
    · rcases post.jQ b hb with h | h | ⟨o,h⟩
      · exact .inl h
      · exact .inr ⟨h,post.mlt b hb⟩
      · rw[hkp,bc1]at h
        exact absurd hb (q8 b o (by rw[k1];exact h)).1
    · rw[hput]
      have h1:x≠s:=by rintro rfl;rw[hs1']at hx;cases hx
      have h2:x≠A:=by rintro rfl;rw[hA1]at hx;cases hx
      rw[if_neg h1,if_neg h2];exact hx
    · rw[hput]
      by_cases e1:x=s
      · subst e1
        rw[hs1']at hx;cases hx
        refine⟨_,if_pos rfl,.inr ⟨rfl,?_⟩⟩
        refine .box _ bb bo Cb eb fb q1 q3 (by simpa using q4) q5 (fun c hc=>by simp at hc;subst hc;rfl) fun j c hj=>?_
        cases j with
        | succ j=>simp at hj
        | zero =>
         simp at hj;subst hj
         exact q6.jv rfl (by rw[hput,if_neg hAs,if_pos rfl]) (by rw[k1,ZN])
      · rw[if_neg e1]
        by_cases e2:x=A
        · subst e2
          rw[hA1]at hx;cases hx
          exact⟨_,if_pos rfl,.inr ⟨⟨rfl,rfl,k2⟩,q7.Gj (fun _ h=>h) (by rw[k1,ZN])⟩⟩
        · refine⟨blk,by rw[if_neg e2];exact hx,.inl ⟨rfl,fun b o h=>hkeep b (r1.own x b o (by rw[hx];rfl) h).2.1 (fun e=>?_) fun o' h'=>?_⟩⟩
          · subst e;exact e1 (r1.inj x s b o bo (by rw[hx];rfl) (by rw[hs1'];rfl) h q1)
          · rw[ZN]at h';exact e2 (r1.inj x A b o o' (by rw[hx];rfl) (by rw[hA1];rfl) h h')
   obtain⟨β2,r3,pJ⟩:=r2.results (d:=d) ab6 hres (fun s hs=>by simp[keysOf]at hs) (fun b o hb=>absurd (hps _ hb) (by simp)) (fun j s blk hj=>by simp at hj)
   refine⟨_,M',β2,hk,post.drawn,fun _=>⟨?_,fun x _=>pJ x (by simp[keysOf]),fQ afa⟩⟩
   rw[hd]
   have e:st.apply (some d) { val:=qR rv,mD:=[(A,.arr sa ks ys),(s,.box [.slice A ks.length off' len'])],new:=nw,cut:=cond true [] [A],xE:=ss }={ env:=Skm.setEnv st1.env (some d) (qR rv),heap:=dZ (dZ st1.heap [(A,.arr sa ks ys),(s,.box [.slice A ks.length off' len'])]) [] }:=by
    rw[← ab7];rfl
   rw[e];exact r3
  | false =>
   rw[hkp]at hk bc1
   have r2:Rel w0 Pr M0 (bD M β ss) β (st1.strike [A]) a w:=r1.strike [A] (fun _ h=>h) fun _ h=>.inl h
   have hst2:∀ x,look (st1.strike [A]).heap x=if x=A then none else(look st1.heap x).map (aJ.kill [A]):=fun x=>by rw[bU];simp
   have hs2:look (st1.strike [A]).heap s=some (.box [AV.kill [A] v]):=by rw[hst2,if_neg hsA,hs1'];rfl
   have Md:∀ x,(look (st1.strike [A]).heap x).isSome=true→x≠A∧(look st1.heap x).isSome=true:=by
    intro x hx
    rw[hst2]at hx
    by_cases e:x=A
    · rw[if_pos e]at hx;cases hx
    · rw[if_neg e]at hx;exact⟨e,by simpa using hx⟩
   have hapart:∀ x b o,(look (st1.strike [A]).heap x).isSome=true→β x=some (b,o)→∀ o',pA≠some (b,o'):=by
    intro x b o hx hb o' h
    obtain⟨hn,hA,h⟩:=hpA b o' h
    exact(Md x hx).1 (r1.inj x A b o o' (Md x hx).2 (by rw[ado hn];rfl) hb h)
   generalize afb:st1.strike [A]=st2 at r2 hst2 hs2 Md hapart
   have r3:Rel w0 Pr M0 (fun b=>M' b∧(bD M β ss b∨w.heap.size≤b)) β { st2 with heap:=put st2.heap s (.box [.undef]) } a w':=by
    refine r2.LU post.size post.os post.tape post.output hkM (fun b n hb h hr=>?_) (fun b h=>⟨post.fB b h,.inl h⟩) (fun b hb=>hb.2.imp id fun h=>⟨h,post.mlt b hb.1⟩) (fun x hx=>?_) (fun x blk hx=>?_)
    · rcases h with ⟨x,o,blk,h1,h2,h3⟩ | ⟨h1,h2⟩
      · by_cases e1:x=s
        · subst e1;rw[hs2]at h1;cases h1;exact h3.elim
        · refine hr.of_block (hkeep b hb (fun e=>?_) (hapart x b o (by rw[h1];rfl) h2))
          subst e;exact e1 (r2.inj x s b o bo (by rw[h1];rfl) (by rw[hs2];rfl) h2 q1)
      · refine hr.of_block (hkeep b hb (fun e=>by omega) fun o' h=>?_)
        have:=(hnA b o' h).2.2.2;omega
    · have h1:x≠s:=by rintro rfl;rw[hs2]at hx;cases hx
      rw[aZ,if_neg h1];exact hx
    · rw[aZ]
      by_cases e1:x=s
      · subst e1
        rw[hs2]at hx;cases hx
        refine⟨_,if_pos rfl,.inr ⟨rfl,?_⟩⟩
        refine .box _ bb bo Cb eb fb q1 q3 (by simpa using q4) q5 (fun c hc=>by simp at hc;subst hc;rfl) fun j c hj=>?_
        cases j with
        | succ j=>simp at hj
        | zero=>simp at hj;subst hj;exact .undef _
      · refine⟨blk,by rw[if_neg e1];exact hx,.inl ⟨rfl,fun b o h=>hkeep b (r2.own x b o (by rw[hx];rfl) h).2.1 (fun e=>?_) (hapart x b o (by rw[hx];rfl) h)⟩⟩
        subst e;exact e1 (r2.inj x s b o bo (by rw[hx];rfl) (by rw[hs2];rfl) h q1)
   have Vb:∀ x,(look (put st2.heap s (.box [.undef])) x).isSome=true→(look st2.heap x).isSome=true:=by
    intro x hx
    rw[aZ]at hx
    by_cases e:x=s
    · subst e;rw[hs2];rfl
    · rw[if_neg e]at hx;exact hx
   have r4:Rel w0 Pr M0 M' β { st2 with heap:=put st2.heap s (.box [.undef]) } a w':=by
    refine r3.more (fun b h=>h.1) fun b hb=>?_
    rcases post.jQ b hb with h | h | ⟨o,h⟩
    · exact .inl ⟨hb,.inl h⟩
    · exact .inl ⟨hb,.inr h⟩
    · rw[hkp,bc1]at h
      obtain⟨g1,g2,g3,g4⟩:=hnA b o h
      exact .inr ⟨by have:=post.size;omega,⟨g4,g3⟩,fun x o' hx hb'=>hapart x b o' (Vb x hx) hb' o h⟩
   have hfree:look (put st2.heap s (.box [.undef])) A=none:=by rw[aZ,if_neg hAs,hst2,if_pos rfl]
   have r5:=r4.lay (s:=A) (blk:=.arr sa ks ys) hfree (p:=p) (fun b o hp=>by
    obtain⟨g1,g2,g3,g4⟩:=hpo b o hp
    exact⟨g1,g2,g3,fun x o' hx=>hpl b o hp x o' (Md x (Vb x hx)).1 (Md x (Vb x hx)).2⟩) (q7.Gj (fun _ h=>h) (by simp))
   have r6:Rel w0 Pr M0 M' (fun x=>if x=A then p else β x) { st2 with heap:=put (put (put st2.heap s (.box [.undef])) A (.arr sa ks ys)) s (.box [.slice A ks.length off' len']) } a w':=by
    refine r5.LU (Nat.le_refl _) rfl rfl rfl (fun _ _ _=>rfl) (fun _ _ _ _ h=>h) (fun _ h=>h) (fun _ h=>.inl h) (fun x hx=>?_) (fun x blk hx=>?_)
    · have h1 : x ≠ s := by
        rintro rfl
        have hx:look (put (put st2.heap x (.box [.undef])) A (.arr sa ks ys)) x=none:=hx
        rw[aZ,if_neg hsA,aZ,if_pos rfl]at hx;cases hx
      rw[aZ,if_neg h1];exact hx
    · rw[aZ]
      by_cases e1:x=s
      · subst e1
        have hx:look (put (put st2.heap x (.box [.undef])) A (.arr sa ks ys)) x=some blk:=hx
        rw[aZ,if_neg hsA,aZ,if_pos rfl]at hx;cases hx
        refine⟨_,if_pos rfl,.inr ⟨rfl,?_⟩⟩
        refine .box _ bb bo Cb eb fb (by simp only[if_neg hsA];exact q1) q3 (by simpa using q4) q5 (fun c hc=>by simp at hc;subst hc;rfl) fun j c hj=>?_
        cases j with
        | succ j=>simp at hj
        | zero =>
         simp at hj;subst hj
         exact q6.jv rfl (by rw[aZ,if_neg hAs,aZ,if_pos rfl]) (by simp)
      · exact⟨blk,by rw[if_neg e1];exact hx,.inl ⟨rfl,fun _ _ _=>rfl⟩⟩
   obtain⟨β2,r7,pJ⟩:=r6.results (d:=d) ab6 hres (fun s hs=>by simp[keysOf]at hs) (fun b o hb=>absurd (hps _ hb) (by simp)) (fun j s blk hj=>by simp at hj)
   refine⟨_,M',β2,hk,post.drawn,fun _=>⟨?_,fun x hx=>(pJ x (by simp[keysOf])).trans (if_neg (by omega)),fQ afa⟩⟩
   rw[hd]
   have e:st.apply (some d) { val:=qR rv,mD:=[(A,.arr sa ks ys),(s,.box [.slice A ks.length off' len'])],new:=nw,cut:=cond false [] [A],xE:=ss }={ env:=Skm.setEnv st2.env (some d) (qR rv),heap:=dZ (fE [A] st1.heap) [(A,.arr sa ks ys),(s,.box [.slice A ks.length off' len'])] }:=by
    rw[← afb,← ab7];rfl
   rw[e]
   refine Rel.congr (st:={ env:=Skm.setEnv st2.env (some d) (qR rv),heap:=put (put (put st2.heap s (.box [.undef])) A (.arr sa ks ys)) s (.box [.slice A ks.length off' len']) }) r7 fun x=>?_
   show look (dZ (fE [A] st1.heap) _) x=look (put (put (put st2.heap s (.box [.undef])) A (.arr sa ks ys)) s (.box [.slice A ks.length off' len'])) x
   rw[hput,aZ]
   by_cases e1:x=s
   · rw[if_pos e1,if_pos e1]
   · rw[if_neg e1,if_neg e1,aZ]
     by_cases e2:x=A
     · rw[if_pos e2,if_pos e2]
     · rw[if_neg e2,if_neg e2,aZ,if_neg e1,fA,hst2,if_neg e2]
theorem abv (ok : bJ P T) {C : aA} (hC : fZ P T w0.gl C) (r : Rel w0 Pr M0 M β st a w) {h' : Nat → Option aJ} (hsub : ∀ s b,h' s = some b → look st.heap s = some b) {f : Nat} {args : List AV} {aF : Array Value}
    (D7:(iY T f).vcall=true) (hargs:lV w M β (look st.heap) args aF.toList) (he:(execOp a.eval o).run P w=(callFunc f aF).run P w):dF P w0 Pr M0 β st a w o (JH T C h' o.dst f args):=by
  have fail:dF P w0 Pr M0 β st a w o .fail:=⟨fun _ _ _ _ hk=>by simp[DT.run]at hk⟩
  unfold JH
  split
  · rename_i d fi pre s hd hf hu
    have afc:fi.cfg.vcall=true:=by rw[← D7];simp[iY,hf]
    have ha:=L9 hu
    subst ha
    split
    · rename_i A z off len hs
      split
      · rename_i sa ks xs hA
        exact OZ ok hC r hsub hd hf afc hargs he (hsub _ _ hs) (.inl ⟨rfl,hsub _ _ hA,z,rfl⟩)
      · exact fail
    · rename_i hs
      cases hk:fi.cfg.vkeep with
      | true=>exact fail
      | false=>exact OZ ok hC r hsub hd hf afc hargs he (hsub _ _ hs) (.inr ⟨rfl,rfl,rfl,rfl,rfl,hk⟩)
    · exact fail
  · exact fail
end
end Go.Skm
