/-
  A machine that runs this program's functions on pure values, and the proof that what it returns is true of the program; no condition beside the hypotheses of each.
-/
import Derived.Test.YtipkmkmngcjdbaaGreatDoorSkmB
import Derived.Laws.BytesArg
import Derived.OrdersIn
import Derived.TacticsIn
import Derived.OwnWalkIn
import Derived.WideKeyRuns
namespace Go.Skm
section
variable {P:Program} {T:Tab} {w0:Base} {Pr M0 M:Nat→Prop} {β:Nat→Option (Nat × Nat)} {st:St} {a:Act} {w:World} {d:Option Nat}
theorem PZ {h : Nat → Option aI} {fn : Fn} {first caps : List AV} {cf cc : Array Value} (hf : kW w M β h first cf.toList) (hc : kW w M β h caps cc.toList) :
    aj P w M β h (yX fn first caps) (Instr.makeFunc fn cf cc):=by
  unfold yX
  split
  · rename_i f
    have e1:cf=#[]:=by
     have:=hf.1
     simp at this
     simpa using this.symm
    subst e1
    split
    · rename_i vs hp
      have e2:=qp hp
      subst e2
      refine aj.ret (c:=.func (.func f) #[] cc) (.p _ _ (.fn f vs cc (by have:=hc.1;simpa using this.symm) fun i c hi=>?_)) (by simp[Instr.makeFunc])
      have hlt:i<cc.size:=by
       have:=hc.1
       have h2:=(List.getElem?_eq_some_iff.1 hi).1
       simp at this;omega
      have:=hc.2 i (.p c) (cc.getD i undef) (by simp[hi]) (by simpa using getD_some hlt)
      cases this;assumption
    · refine aj.chk fun _=>aj.ret (c:=.func (.func f) #[] cc) (.fn f caps cc (by have:=hc.1;simpa using this.symm) fun i c hi=>?_) (by simp[Instr.makeFunc])
      have hlt:i<cc.size:=by
       have:=hc.1
       have h2:=(List.getElem?_eq_some_iff.1 hi).1
       simp at this;omega
      exact hc.2 i c (cc.getD i undef) hi (by simpa using getD_some hlt)
  · exact aj.fail
theorem Uu (w:World) (C:Array Value) (e:TypeId) (n:Nat):(w.alloc (.cells C e)).freeze ⟨w.heap.size,n,none⟩ 1=w.alloc (.cells C e (n,n+1)):=by
 simp only[World.freeze,World.alloc]
 rw[if_neg (by omega)]
 congr 1
 apply Array.ext
 · simp
 · intro i h1 h2
   simp only[Array.size_modify,Array.size_push]at h1
   rw[Array.getElem_modify]
   by_cases hi:w.heap.size=i
   · subst hi
     simp
   · rw[if_neg hi]
     rw[Array.getElem_push_lt (by omega),Array.getElem_push_lt (by omega)]
theorem Zx {src dst e : TypeId} (hs : P.underlying src = some (.slice e)) (hd : P.underlying dst = some .string) (he : P.underlying e = some (.int .u8)) {ys : List PV} {m l cap : Nat} {base : Option Addr}
    (h:KN P w M false [.int .u8] m ys (.slice base l cap)):(convert src dst (.slice base l cap)).run P w=.ok (.string (bytesOf ys)) w:=by
  obtain⟨q1,q2,q3,q4⟩:=h
  have hm:m=l:=by
   simp[Builtin.lenOf]at q1;exact q1.symm
  subst hm
  obtain⟨C,c1,c2,c3⟩:=q4 m (Nat.le_refl m)
  rw[run_convert_bytes_string w src dst e base m cap hs he hd]
  have hk:∀ (i:Nat) (y:PV),ys[i]?=some y→y=.int .u8 y.toInt∧C[i]?=some (.int .u8 y.toInt):=by
   intro i y hy
   have hi:=(List.getElem?_eq_some_iff.1 hy).1
   have hq:=q3 y (List.mem_of_getElem? hy)
   have e1:y=.int .u8 y.toInt:=by
    cases y<;>simp[aA,kindOk]at hq
    subst hq;rfl
   have hc:=c3 i y 0 (.int .u8 y.toInt) (by omega) hy (by rw[e1];rfl)
   simp only[List.length_cons,List.length_nil,Nat.zero_add,Nat.mul_one,Nat.add_zero]at hc
   have hsz:i<C.size:=by rw[c2];simp;omega
   refine⟨e1,?_⟩
   rw[Array.getElem?_eq_getElem hsz]
   have e2:C.getD i undef=C[i]:=by simp[Array.getD,hsz]
   rw[e2]at hc
   cases hc2:C[i]<;>rw[hc2]at hc<;>cases hc
   rfl
  have hC:C=((ys.map PV.toInt).map (Value.int .u8)).toArray:=by
   apply Array.ext_getElem?
   intro i
   conv=>rhs;rw[List.getElem?_toArray,List.getElem?_map,List.getElem?_map]
   cases hy:ys[i]? with
   | none =>
    have:=List.getElem?_eq_none_iff.1 hy
    rw[Array.getElem?_eq_none (by rw[c2];simp;omega)];rfl
   | some y=>rw[(hk i y hy).2];rfl
  cases base with
  | none =>
   simp only[Builtin.firstCells,Sem.run_pure]at c1
   cases c1
   have:ys=[]:=by
    cases ys with
    | nil=>rfl
    | cons y ys=>simp at c2;simp at q2;omega
   subst this
   rfl
  | some ad =>
   simp only[Builtin.firstCells,List.length_cons,List.length_nil,Nat.zero_add,Nat.mul_one]at c1
   rw[hC]at c1
   rw[run_bytesToString w ad m cap (ys.map PV.toInt) c1,foldl_push_bytes]
   congr 1
   simp[bytesOf,ByteArray.empty,ByteArray.emptyWithCapacity,Function.comp_def]
   rfl
theorem Zy {h:Nat→Option aI} {x:AV} {c:Value} (hx:AR w M β h x c) (hi:ac0 x=true):∃ base l cap,c=.slice base l cap:=by
 cases hx<;>simp[ac0]at hi
 · rename_i v hv
   cases v<;>simp at hi
   cases hv<;>exact⟨_,_,_,rfl⟩
 · exact⟨_,_,_,rfl⟩
 · exact⟨_,_,_,rfl⟩
theorem Rx (ok : bP P T) (r : Rel w0 Pr M0 M β st a w) {h' : Nat → Option aI} (hsub : ∀ s b,h' s = some b → look st.heap s = some b) {src dst : TypeId} {x : AV} {c : Value}
    (hx:AR w M β (look st.heap) x c):aO P w0 Pr M0 β st a w d (AP T h' d src dst x) (do pure (.value (← convert src dst c))):=by
  unfold AP
  split
  · rename_i k n
    rw[hx.zK]
    split
    · rename_i ds j hs hd
      have hs:=ok.und hs
      have hd:=ok.und hd
      refine aO.KJ r (aj.ret (.int _ _) ?_)
      simp only[convert,Sem.run_bind,aZ hs,aZ hd,Result.andThen_ok]
      cases ds<;>simp[Conv.intToInt]
    · exact aO.fail
  · rename_i s
    rw[hx.Kv]
    split
    · rename_i ds hs hd
      have hs:=ok.und hs
      have hd:=ok.und hd
      refine aO.KJ r (aj.ret (.str _) ?_)
      simp only[convert,Sem.run_bind,aZ hs,aZ hd,Result.andThen_ok]
      cases ds<;>simp
    · rename_i e hs hd
      have hs:=ok.und hs
      have hd:=ok.und hd
      split
      · rename_i dd he
        have he:=ok.und he
        let cap:=(Question.appendCap s.size 0 e).cut (w.tape w.drawn (.appendCap s.size 0 e))
        have hcut:s.size≤cap:=Nat.le_add_right _ _
        let C:Array Value:=(s.data.map fun b=>Value.int .u8 b.toNat)++Array.replicate (cap-s.size) (.int .u8 0)
        have hC:C.size=cap:=by
         have:s.data.size=s.size:=rfl
         simp only[C,Array.size_append,Array.size_map,Array.size_replicate];omega
        have hrun:(convert src dst (.string s)).run P w=.ok (.slice (some ⟨w.heap.size,0,none⟩) s.size cap) (w.drew.alloc (.cells C e (C.size,C.size+1))):=by
         simp only[convert,Sem.run_bind,aZ hs,aZ hd,Result.andThen_ok,aZ he,Conv.stringToBytes]
         rw[run_choose]
         simp only[Question.forced,Bool.false_eq_true,if_false,Result.andThen_ok,World.drew_eq,newRow,Sem.run_bind,run_newObj,Sem.run_pure,World.alloc_eq,markStringish,run_shape]
         have hsh:(w.drew.alloc (.cells C e)).shape? w.heap.size=some (e,C.size):=by
          simp only[World.shape?]
          have:=lZ (w:=w.drew) (o:=.cells C e)
          rw[show w.drew.heap.size=w.heap.size from rfl]at this
          rw[this]
         have hsh':(w.drew.alloc (.cells ((s.data.map fun b=>Value.int .u8 b.toNat)++Array.replicate ((Question.appendCap s.size 0 e).cut (w.tape w.drawn (.appendCap s.size 0 e))-s.size) (.int .u8 0)) e)).shape? w.drew.heap.size=some (e,C.size):=hsh
         rw[hsh']
         simp only[run_freeze,Result.andThen_ok]
         have:=Uu w.drew C e C.size
         rw[show (w.drew.alloc (.cells ((s.data.map fun b=>Value.int .u8 b.toNat)++Array.replicate ((Question.appendCap s.size 0 e).cut (w.tape w.drawn (.appendCap s.size 0 e))-s.size) (.int .u8 0)) e)).freeze ⟨w.drew.heap.size,C.size,none⟩ 1=w.drew.alloc (.cells C e (C.size,C.size+1)) from this]
         rfl
        have hlen:(s.data.toList.map fun b=>PV.int .u8 b.toNat).length=s.size:=by simp
        have hr:=r.drew.Un (ss:=[]) rfl (by simp) (d:=dd) (sa:=false) (ks:=[.int .u8]) (xs:=s.data.toList.map fun b=>PV.int .u8 b.toNat) (C:=C) (e:=e) (fr:=(C.size,C.size+1)) (len:=s.size) (cap:=cap)
         (.inr (Nat.le_refl _)) (fun x hx=>by
           obtain⟨b,_,rfl⟩:=List.mem_map.1 hx
           rfl) (by rw[hlen];exact Nat.le_refl _) hcut (by rw[hC];simp) (by rw[hlen,hC];simpa using hcut) (fun i x j c hxi hj=>by
           rw[List.getElem?_map]at hxi
           cases hb:s.data.toList[i]? with
           | none=>rw[hb]at hxi;simp at hxi
           | some q =>
            rw[hb]at hxi;simp at hxi;subst hxi
            have hj0:j=0:=by
             have:=(List.getElem?_eq_some_iff.1 hj).1
             simpa [PV.cells] using this
            subst hj0
            simp[PV.cells]at hj;subst hj
            have hq:s.data[i]?=some q:=by simpa using hb
            have hlt:i<s.data.size:=(Array.getElem?_eq_some_iff.1 hq).1
            have:C.getD (i*1+0) undef=.int .u8 q.toNat:=by
             rw[Array.getD_eq_getD_getElem?,Nat.mul_one,Nat.add_zero,Array.getElem?_append_left (by simpa using hlt),Array.getElem?_map,hq];rfl
            show VR w.drew _ _ (C.getD (i*1+0) undef)
            rw[this]
            exact .int _ _)
        exact aO.ret (nv:=.value (.slice (some ⟨w.heap.size,0,none⟩) s.size cap)) (by simp only[Sem.run_bind,hrun,Result.andThen_ok,Sem.run_pure]) (.inl rfl) (fun _=>hr) (fun hf=>oG hf)
      · exact aO.fail
    · exact aO.fail
  · split
    · rename_i e hs hd
      have hs:=ok.und hs
      have hd:=ok.und hd
      split
      · rename_i s2 m ys he hsrc
        have he:=ok.und he
        refine aO.chk fun hb=>?_
        rw[Bool.and_eq_true]at hb
        obtain⟨base,l,cap,rfl⟩:=Zy hx hb.2
        have hsr:=yD (P:=P) r hsub hx hsrc hb.1
        refine aO.KJ r (aj.ret (.str _) ?_)
        exact Zx hs hd he hsr
      · exact aO.fail
    · rename_i e e' hs hd
      have hs:=ok.und hs
      have hd:=ok.und hd
      split
      · rename_i ee s z off len he he' _ _
        have he':=ok.und he'
        split
        · rename_i sa ks xs hl0
          have hl:=hsub _ _ hl0
          refine aO.chk fun hb=>?_
          simp only[Bool.and_eq_true,beq_iff_eq]at hb
          obtain⟨hsd,hb1,hb2⟩:=hb
          have hlen:0<len:=Nat.blt_eq▸hb1
          have hs1:s<ah:=Nat.blt_eq▸hb2
          cases hx with
          | sliceE _ _ a1 Uo xs1 base g1 g2=>omega
          | slice _ _ _ a1 Uo xs1 b o cap g1 g2 g3 g4 g5 =>
           rw[hl]at g1;cases g1
           cases r.heap s _ hl with
           | fM=>simp at g2;omega
           | arr _ _ _ b' o' C ce fr k1 k2 k3 k4 k5 k6 =>
            rw[g3]at k1;cases k1
            have hrun:(convert src dst (.slice (some ⟨b,o+off*ks.length,none⟩) len cap)).run P w=.ok (.slice (some ⟨b,o+off*ks.length,none⟩) len cap) (dM w b C ce (y9 C.size fr)):=by
             have hsh:w.shape? b=some (ce,C.size):=by simp[World.shape?,k2]
             have hfz:w.freeze ⟨b,C.size,none⟩ 1=dM w b C ce (y9 C.size fr):=by
              unfold World.freeze dM
              rw[if_neg (by decide)]
              congr 1
              apply Array.ext_getElem?
              intro i
              rw[Array.getElem?_modify,Array.getElem?_setIfInBounds]
              by_cases hi:b=i
              · subst hi
                have hlt:=(Array.getElem?_eq_some_iff.1 k2).1
                rw[if_pos rfl,if_pos rfl,if_pos hlt,k2]
                obtain⟨lo,hi⟩:=fr
                rfl
              · rw[if_neg hi,if_neg hi]
             simp only[convert,Sem.run_bind,aZ hd,Result.andThen_ok,hsd,beq_self_eq_true,aZ he',markStringish,run_shape,hsh,run_freeze,hfz,Sem.run_pure]
            have rw1:=r.Zk (s:=s) (b:=b) (o:=o) (blk:=.arr sa ks xs) (blk':=.arr sa ks xs) (C:=C) (C':=C) (e:=ce) (fr:=fr) (fr':=y9 C.size fr) (w':=dM w b C ce (y9 C.size fr)) hl
             (by simp[Like]) g3 k2 rfl (fun hO=>hO.mark) rfl rfl rfl rfl (fun _ hk2 hself=>.arr sa ks _ b o _ ce _ g3 hself k3 k4.mark k5 fun i x j c hx hc=>hk2 _ _ (k6 i x j c hx hc))
            refine aO.ret (h5:=fun _=>lM (.inr ⟨_,hl,by simp[Like]⟩)) (nv:=.value (.slice (some ⟨b,o+off*ks.length,none⟩) len cap)) (w':=dM w b C ce (y9 C.size fr)) (M':=M) (β':=β) (by simp only[Sem.run_bind,hrun,Result.andThen_ok,Sem.run_pure]) (.inl rfl) (fun _=>?_)
            have e0:st.apply d { val:=AV.slice s ks.length off len,lJ:=[(s,.arr sa ks xs)] }={ st with env:=Skm.setEnv st.env d (.slice s ks.length off len),heap:=put st.heap s (.arr sa ks xs) }:=rfl
            rw[e0]
            have hroom:Room (dM w b C ce (y9 C.size fr)) b (2*(o+(off+cap)*ks.length)):=by
             obtain⟨C1,e1,Rh,q1,q2,q3⟩:=g5.get
             rw[k2]at q1;cases q1
             exact Room.mk (C:=C) (e:=ce) (fr:=y9 C.size fr) (by simp[dM,(Array.getElem?_eq_some_iff.1 k2).1]) q2 q3.mark
            exact rw1.setEnv d (.slice s off len sa ks xs b o cap (by simp[aV]) g2 g3 g4 hroom)
        · exact aO.fail
      · exact aO.fail
    · exact aO.fail
end
end Go.Skm
namespace Go.Skm
def gZ (gl:Option (List (Nat × Obj))) (a b:Nat):Prop:=gl=none→a≤b
theorem gZ.refl (gl:Option (List (Nat × Obj))) (a:Nat):gZ gl a a:=fun _=>Nat.le_refl _
theorem gZ.trans {gl:Option (List (Nat × Obj))} {a b c:Nat} (h:gZ gl a b) (k:gZ gl b c):gZ gl a c:=fun e=>Nat.le_trans (h e) (k e)
inductive qB (T:Tab) (w:World) (M:Nat→Prop) (β:Nat→Option (Nat × Nat)) (h:Nat→Option aI):dX→TypeId→AV→Value→Option (Nat × Nat)→Prop
 | deep (t:TypeId) (x:PV) (c:Value) (hs:aA (aB T t).1 (aB T t).2 x=true) (hv:VR w M x c):qB T w M β h .deep t (.p x) c none
 | fresh (t e : TypeId) (xs : List PV) (c : Value) (p : Option (Nat × Nat)) (hu : und T t = some (.slice e))
     (hb:BR w M (fun _=>p) (fun _=>some (.arr (aB T e).1 (aB T e).2 xs)) 0 (.arr (aB T e).1 (aB T e).2 xs))
     (hv:AR w M (fun _=>p) (fun _=>some (.arr (aB T e).1 (aB T e).2 xs)) (.slice 0 (aB T e).2.length 0 xs.length) c) :
     qB T w M β h .fresh t (.fresh (aB T e).1 (aB T e).2 xs) c p
 | alias (j : Nat) (t e : TypeId) (off len : Nat) (c : Value) (hu : und T t = some (.slice e))
     (hv:AR w M β h (.slice (ah+j) (aB T e).2.length off len) c):qB T w M β h (.alias j) t (.slice (ah+j) (aB T e).2.length off len) c none
 | func (g:Nat) (qs:List (Bool × List Kd)) (t:TypeId) (cs:List PV) (c:Value) (hs:vg qs cs=true) (hv:VR w M (.fn g cs) c):qB T w M β h (.func g qs) t (.p (.fn g cs)) c none
 | vk (g:Nat) (qs:List (Bool × List Kd)) (t:TypeId) (cs:List PV) (c:Value) (hs:vg qs cs=true) (hv:VR w M (.fn g cs) c):qB T w M β h (.vk g qs) t (.p (.fn g cs)) c none
 | Cc (g:Nat) (qs:List (Bool × List Kd)) (t:TypeId):qB T w M β h (.vk g qs) t (.p .jL) .nilFunc none
 | IW (t:TypeId):qB T w M β h .IW t (.p .jL) .nilFunc none
 | yc (g:Nat) (t:TypeId) (cs:List PV) (c:Value) (hv:VR w M (.fn g cs) c):qB T w M β h .yc t (.p (.fn g cs)) c none
 | DI (t : TypeId) (VK ks : List Kd) (a : Bool) (ls : List Kd) (ys : List PV) (xs : List PV) (vs : Array Value) (p : Option (Nat × Nat)) (hsh : aB T t = (true,VK)) (hla : qL VK = some (ks,.slice a ls))
     (hk:bH ks ys=true) (hf:ks.all Kd.flat=true) (hn:vs.size=ys.length+1) (hv:∀ (i:Nat) (c:PV),ys[i]?=some c→VR w M c (vs.getD i undef))
     (hb:BR w M (fun _=>p) (fun _=>some (.arr a ls xs)) 0 (.arr a ls xs))
     (hl:AR w M (fun _=>p) (fun _=>some (.arr a ls xs)) (.slice 0 ls.length 0 xs.length) (vs.getD ys.length undef)) :
     qB T w M β h .DI t (.agg (ys.map .p++[.fresh a ls xs])) (.agg vs) p
inductive qA (T:Tab) (w:World) (M:Nat→Prop) (β:Nat→Option (Nat × Nat)) (h:Nat→Option aI):List dX→List TypeId→List AV→List Value→List (Option (Nat × Nat))→Prop
 | nil (ms:List dX):qA T w M β h ms [] [] [] []
 | cons (ms : List dX) (t : TypeId) (ts : List TypeId) (v : AV) (vs : List AV) (c : Value) (cs : List Value) (p : Option (Nat × Nat)) (ps : List (Option (Nat × Nat)))
     (h1:qB T w M β h (ms.headD .deep) t v c p) (h2:qA T w M β h ms.tail ts vs cs ps)
     (h3:∀ b o o',p=some (b,o)→some (b,o') ∉ ps):qA T w M β h ms (t::ts) (v::vs) (c::cs) (p::ps)
def rP:List Value→Value
 | [c]=>c
 | cs=>.tuple cs.toArray
structure rQ (gl:Option (List (Nat × Obj))) (T:Tab) (fi:FI) (w:World) (M:Nat→Prop) (β:Nat→Option (Nat × Nat)) (bl:List aI) (rs:List AV) (iU:List aI) (w':World) (M':Nat→Prop) (cs:List Value) (ps:List (Option (Nat × Nat))):Prop where
 res:qA T w' M' β (look (dN 0 iU)) fi.cfg.rets fi.fn.resultTypes.toList rs cs ps
 own:∀ b o,some (b,o)∈ps→¬ M' b∧b<w'.heap.size∧w.heap.size≤b
 res2:fi.cfg.zD=false→fi.cfg.shares=false→∃ M2:Nat→Prop,(∀ b,M2 b→M' b∧w.heap.size≤b)∧qA T w' M2 β (look (dN 0 iU)) fi.cfg.rets fi.fn.resultTypes.toList rs cs ps
 fJ:∀ b,M b→M' b
 jX:∀ b,M' b→M b∨w.heap.size≤b
 mlt:∀ b,M' b→b<w'.heap.size
 keep:∀ b,b<w.heap.size→(∀ i o,i<bl.length→β (ah+i)≠some (b,o))→w'.heap[b]?=w.heap[b]?
 room:∀ b n,b<w.heap.size→Room w b n→Room w' b n
 size:w.heap.size≤w'.heap.size
 os:w'.os=w.os
 tape:w'.tape=w.tape
 output:w'.output=w.output
 drawn:gZ gl w.drawn w'.drawn
 len:iU.length=bl.length
 blk:∀ i b0 b1,bl[i]?=some b0→iU[i]?=some b1→BR w' M' β (look (dN 0 iU)) (ah+i) b1∧Like b0 b1∧backOk b0 b1=true∧dn b1=true
structure oH (w:World) (M:Nat→Prop) (β:Nat→Option (Nat × Nat)) (args:List AV) (bl:List aI) (aG:Array Value):Prop where
 num:aG.size=args.length
 args:∀ i v,args[i]?=some v→AR w M β (look (dN 0 bl)) v (aG.getD i undef)
 blk:∀ i b0,bl[i]?=some b0→BR w M β (look (dN 0 bl)) (ah+i) b0
 own:∀ i b o,i<bl.length→β (ah+i)=some (b,o)→¬ M b∧b<w.heap.size
 inj:∀ i j b o o',i<bl.length→j<bl.length→β (ah+i)=some (b,o)→β (ah+j)=some (b,o')→i=j
 fJ:∀ b,M b→b<w.heap.size
structure P5 (keep:Bool) (w:World) (M:Nat→Prop) (β:Nat→Option (Nat × Nat)) (args:List AV) (bl:List aI) (aG:Array Value):Prop where
 num:aG.size=args.length
 args:∀ i v,args[i]?=some v→AR w M β (look (je keep bl)) v (aG.getD i undef)
 blk:∀ s b,look (je keep bl) s=some b→BR w M β (look (je keep bl)) s b
 own:∀ s b o,(look (je keep bl) s).isSome=true→β s=some (b,o)→¬ M b∧b<w.heap.size
 inj:∀ s s' b o o',(look (je keep bl) s).isSome=true→(look (je keep bl) s').isSome=true→β s=some (b,o)→β s'=some (b,o')→s=s'
 fJ:∀ b,M b→b<w.heap.size
structure P6 (gl:Option (List (Nat × Obj))) (T:Tab) (fi:FI) (w:World) (M:Nat→Prop) (β:Nat→Option (Nat × Nat)) (a:Bool) (ks:List Kd) (xs:List PV) (rs:List AV) (iU:List aI) (w':World) (M':Nat→Prop) (cs:List Value):Prop where
 res:∃ β' h' ps,qA T w' M' β' h' fi.cfg.rets fi.fn.resultTypes.toList rs cs ps∧∀ p∈ps,p=none
 fJ:∀ b,M b→M' b
 jX:∀ b,M' b→M b∨w.heap.size≤b∨∃ o,β (bZ fi.cfg.vkeep)=some (b,o)
 mlt:∀ b,M' b→b<w'.heap.size
 keep:∀ b,b<w.heap.size→(∀ o,β ah≠some (b,o))→(∀ o,β (bZ fi.cfg.vkeep)≠some (b,o))→w'.heap[b]?=w.heap[b]?
 size:w.heap.size≤w'.heap.size
 os:w'.os=w.os
 tape:w'.tape=w.tape
 output:w'.output=w.output
 drawn:gZ gl w.drawn w'.drawn
 back:∃ off len ys bb bo C e fr p,iU=[.box [.slice (bZ fi.cfg.vkeep) ks.length off len],.arr a ks ys]∧β ah=some (bb,bo)∧¬ M' bb∧w'.heap[bb]?=some (.cells C e fr)∧bo+1≤C.size∧Open C fr ∧
  AR w' M' (fun _=>p) (fun _=>some (.arr a ks ys)) (.slice 0 ks.length off len) (C.getD bo undef)∧BR w' M' (fun _=>p) (fun _=>some (.arr a ks ys)) 0 (.arr a ks ys) ∧
  (∀ b o,p=some (b,o)→¬ M' b∧b<w'.heap.size∧b≠bb∧(w.heap.size≤b∨∃ o',β (bZ fi.cfg.vkeep)=some (b,o'))) ∧
  (fi.cfg.vkeep=true→p=β (bZ true)∧xs.length≤ys.length∧∀ b o n,p=some (b,o)→Room w b n→Room w' b n)
structure gX (P:Program) (T:Tab) (gl:Option (List (Nat × Obj))) (C:aF):Prop where
 plain:∀ f fi args bl rs iU,bG T.funcs f=some fi→(∀ b∈bl,dn b=true)→C f args bl=some (rs,iU)→(∃ c,fi.fn.body=some c) ∧
  ∀ (w:World) (M:Nat→Prop) (β:Nat→Option (Nat × Nat)) (aG:Array Value),(∀ p∈gl.getD [],M p.1∧w.heap[p.1]?=some p.2)→oH w M β args bl aG →
   Calls P f aG w fun e w'=>∃ cs ps M',e=.returned (rP cs)∧rQ gl T fi w M β bl rs iU w' M' cs ps
 var:∀ f fi args z off len a ks xs rs iU,bG T.funcs f=some fi→fi.cfg.vcall=true→C f args [.box [.slice (bZ fi.cfg.vkeep) z off len],.arr a ks xs]=some (rs,iU)→(∃ c,fi.fn.body=some c) ∧
  ∀ (w:World) (M:Nat→Prop) (β:Nat→Option (Nat × Nat)) (aG:Array Value),(∀ p∈gl.getD [],M p.1∧w.heap[p.1]?=some p.2)→P5 fi.cfg.vkeep w M β args [.box [.slice (bZ fi.cfg.vkeep) z off len],.arr a ks xs] aG →
   Calls P f aG w fun e w'=>∃ cs M',e=.returned (rP cs)∧P6 gl T fi w M β a ks xs rs iU w' M' cs
theorem Xu {bl:List aI}:∀ (k i:Nat),look (dN k bl) (ah+(k+i))=bl[i]?:=by
 induction bl with
 | nil=>intro k i;simp[dN,look]
 | cons b r ih =>
  intro k i
  cases i with
  | zero=>simp[dN,look]
  | succ i =>
   have:(ah+k==ah+(k+(i+1)))=false:=by simp
   simp only[dN,look,this,cond_false]
   rw[show k+(i+1)=(k+1)+i from by omega,ih]
   simp
theorem mX {bl:List aI} (i:Nat):look (dN 0 bl) (ah+i)=bl[i]?:=by
 have:=Xu (bl:=bl) 0 i
 rwa[Nat.zero_add]at this
theorem Ry:∀ {bl:List aI} {k s:Nat} {b:aI},look (dN k bl) s=some b→∃ i,i<bl.length∧s=ah+(k+i)
 | [],k,s,b,h=>by simp[dN,look]at h
 | x::r,k,s,b,h=>by
  simp only[dN,look]at h
  cases he:ah+k==s with
  | true=>exact⟨0,by simp,(by simpa using he:ah+k=s).symm⟩
  | false =>
   rw[he]at h
   obtain⟨i,h1,h2⟩:=Ry h
   exact⟨i+1,by simpa using h1,by omega⟩
theorem Ce {bl:List aI} {s:Nat} {b:aI} (h:look (dN 0 bl) s=some b):∃ i,i<bl.length∧s=ah+i∧bl[i]?=some b:=by
 obtain⟨i,h1,h2⟩:=Ry h
 rw[Nat.zero_add]at h2
 subst h2
 exact⟨i,h1,rfl,by rw[← mX];exact h⟩
theorem VR.N7 {w w':World} {M M':Nat→Prop} {k:Kd} {x:PV} {c:Value} (hk:k.flat=true) (ho:kindOk k x=true) (h:VR w M x c):VR w' M' x c:=by
 cases k<;>simp[Kd.flat]at hk<;>cases x<;>simp[kindOk]at ho<;>cases h<;>constructor
theorem VR.flat {w w':World} {M M':Nat→Prop} {a:Bool} {ks:List Kd} {x:PV} {c:Value} (hk:ks.all Kd.flat=true) (ho:aA a ks x=true) (h:VR w M x c):VR w' M' x c:=by
 have hall:∀ (j:Nat) (k:Kd),ks[j]?=some k→k.flat=true:=fun j k hj=>List.all_eq_true.1 hk k (List.mem_of_getElem? hj)
 cases a with
 | true =>
  cases h with
  | agg cs vs hn hl hc =>
   have hko:=eH (jS ho)
   refine .agg cs vs hn hl fun i y hy=>?_
   have hi:i<ks.length:=by
    have:=(List.getElem?_eq_some_iff.1 hy).1
    have e:=hko.1
    simp only[PV.cells]at e
    omega
   exact(hc i y hy).N7 (hall i ks[i] (by simp)) (hko.2 i ks[i] y (by simp) hy)
  | _=>simp[aA]at ho
 | false =>
  match ks,ho,hall with
  | [k],ho,hall=>exact h.N7 (hall 0 k rfl) (by simpa [aA] using ho)
  | [],ho,_=>simp[aA]at ho
  | _::_::_,ho,_=>simp[aA]at ho
theorem VR.written {w:World} {M:Nat→Prop} {ks:List Kd} {x:PV} {c:Value} (ho:aA true ks x=true) (h:VR w M x c):VR w M (.agg (eF ks x 0)) c:=by
 cases h with
 | agg cs vs hn hl hc =>
  have hko:=eH (jS ho)
  simp only[PV.cells]at hko
  have hlen:(eF ks (.agg cs) 0).length=ks.length:=by
   have:∀ (ks:List Kd) (x:PV) (o:Nat),(eF ks x o).length=ks.length:=by
    intro ks
    induction ks with
    | nil=>intro x o;rfl
    | cons k r ih=>intro x o;simp[eF,ih]
   exact this _ _ _
  have hget:∀ (j:Nat) (y:PV),(eF ks (.agg cs) 0)[j]?=some y→∃ k z,ks[j]?=some k∧cs[j]?=some z∧y=eta k z:=by
   intro j y hy
   rw[oW]at hy
   cases hk:ks[j]? with
   | none=>rw[hk]at hy;cases hy
   | some k =>
    rw[hk]at hy
    simp only[Option.map_some,Option.some.injEq]at hy
    have hj:j<cs.length:=by
     have:=(List.getElem?_eq_some_iff.1 hk).1
     omega
    refine⟨k,cs[j],rfl,by simp,?_⟩
    rw[← hy]
    simp[PV.cell,List.getD,hj]
  refine .agg _ vs (by rw[hlen,hn];exact hko.1.symm) (fun y hy=>?_) fun j y hy=>?_
  · obtain⟨j,hj⟩:=List.mem_iff_getElem?.1 hy
    obtain⟨k,z,h1,h2,rfl⟩:=hget j y hj
    exact EY (hko.2 j k z h1 h2)
  · obtain⟨k,z,h1,h2,rfl⟩:=hget j y hy
    exact xg (hko.2 j k z h1 h2) (hc j z h2)
 | _=>simp[aA]at ho
end Go.Skm
namespace Go.Skm
abbrev IZ:=Nat × aI × Option (Nat × Nat)
def zL (l:List IZ):List (Nat × aI):=l.map fun x=>(x.1,x.2.1)
def overlay (β:Nat→Option (Nat × Nat)):List IZ→Nat→Option (Nat × Nat)
 | []=>β
 | (k,_,p)::r=>overlay (fun x=>if x=k then p else β x) r
theorem wE {s:Nat}:∀ {l:List IZ} {β:Nat→Option (Nat × Nat)},(∀ x∈l,x.1≠s)→overlay β l s=β s
 | [],_,_=>rfl
 | (k,b,p)::r,β,h=>by
  simp only[overlay]
  rw[wE fun x hx=>h x (by simp[hx])]
  exact if_neg fun e=>h (k,b,p) (by simp) e.symm
theorem KR {x:IZ}:∀ {l:List IZ} {β:Nat→Option (Nat × Nat)},l.Pairwise (fun x y=>x.1≠y.1)→x∈l→overlay β l x.1=x.2.2
 | [],_,_,h=>by simp at h
 | (k,b,p)::r,β,hd,h=>by
  simp only[overlay]
  rw[List.pairwise_cons]at hd
  rcases List.mem_cons.1 h with rfl | h
  · rw[wE fun y hy=>(hd.1 y hy).symm];simp
  · exact KR hd.2 h
theorem D5 {s:Nat}:∀ {l:List IZ} {hp:Heap},(∀ x∈l,x.1≠s)→look (cZ hp (zL l)) s=look hp s
 | [],_,_=>rfl
 | (k,b,p)::r,hp,h=>by
  show look (cZ (put hp k b) (zL r)) s=_
  rw[D5 fun x hx=>h x (by simp[hx]),aV]
  exact if_neg fun e=>h (k,b,p) (by simp) e.symm
theorem N8 {x:IZ}:∀ {l:List IZ} {hp:Heap},l.Pairwise (fun x y=>x.1≠y.1)→x∈l→look (cZ hp (zL l)) x.1=some x.2.1
 | [],_,_,h=>by simp at h
 | (k,b,p)::r,hp,hd,h=>by
  show look (cZ (put hp k b) (zL r)) x.1=_
  rw[List.pairwise_cons]at hd
  rcases List.mem_cons.1 h with rfl | h
  · rw[D5 fun y hy=>(hd.1 y hy).symm,aV];simp
  · exact N8 hd.2 h
section
variable {w0:Base} {Pr M0 M:Nat→Prop} {β:Nat→Option (Nat × Nat)} {st:St} {a:Act} {w:World}
theorem BR.KT {w:World} {M:Nat→Prop} {β β':Nat→Option (Nat × Nat)} {h h':Nat→Option aI} {s s':Nat} {sa:Bool} {ks:List Kd} {xs:List PV} (hb:BR w M β h s (.arr sa ks xs)) (e:β' s'=β s):BR w M β' h' s' (.arr sa ks xs):=by
 cases hb with
 | fM=>exact .fM _ _
 | arr _ _ _ b o C e' fr g1 g2 g3 g4 g5 g6=>exact .arr _ _ _ b o C e' fr (e.trans g1) g2 g3 g4 g5 g6
theorem AR.gy {w:World} {M M':Nat→Prop} {β β':Nat→Option (Nat × Nat)} {h h':Nat→Option aI} {s s' z off len:Nat} {c:Value} {blk:aI} (hv:AR w M β h (.slice s z off len) c) (e1:h s=some blk) (e2:h' s'=some blk) (e3:β' s'=β s):AR w M' β' h' (.slice s' z off len) c:=by
 cases hv with
 | slice _ _ _ a ks xs b o cap hs hl hb hcap hr=>rw[hs]at e1;cases e1;exact .slice s' off len a ks xs b o cap e2 hl (e3.trans hb) hcap hr
 | sliceE _ _ a ks xs base hs hl=>rw[hs]at e1;cases e1;exact .sliceE s' off a ks xs base e2 hl
theorem Rel.lays : ∀ (l : List IZ) {β : Nat → Option (Nat × Nat)} {st : St},Rel w0 Pr M0 M β st a w → l.Pairwise (fun x y => x.1 ≠ y.1) → (∀ x ∈ l,look st.heap x.1 = none) →
    l.Pairwise (fun x y=>∀ b o o',x.2.2=some (b,o)→y.2.2≠some (b,o')) →
    (∀ x∈l,∀ b o,x.2.2=some (b,o)→¬ M b∧b<w.heap.size∧w0.heap.size≤b∧(∀ s' o',(look st.heap s').isSome=true→β s'≠some (b,o'))) →
    (∀ x∈l,∃ sa ks xs,x.2.1=.arr sa ks xs∧BR w M (fun _=>x.2.2) (fun _=>none) 0 x.2.1) →
    Rel w0 Pr M0 M (overlay β l) { st with heap:=cZ st.heap (zL l) } a w
  | [],β,st,r,_,_,_,_,_=>r
  | (k,blk,p)::l,β,st,r,hd,hn,hq,ho,hb=>by
   rw[List.pairwise_cons]at hd hq
   have h0:=hn (k,blk,p) (by simp)
   obtain⟨sa,ks,xs,e,hb0⟩:=hb (k,blk,p) (by simp)
   simp only at e hb0 h0
   have r1:=r.lay (s:=k) (blk:=blk) h0 (p:=p) (fun b o e=>by
    obtain⟨g1,g2,g3,g4⟩:=ho (k,blk,p) (by simp) b o e
    exact⟨g1,g2,⟨.inl g3,.inl (Nat.le_trans w0.le' g3)⟩,g4⟩) (by subst e;exact hb0.KT (by simp))
   refine Rel.lays l r1 hd.2 (fun x hx=>?_) hq.2 (fun x hx b o e=>?_) (fun x hx=>hb x (by simp[hx]))
   · show look (put st.heap k blk) x.1=none
     rw[aV,if_neg (hd.1 x hx).symm]
     exact hn x (by simp[hx])
   · obtain⟨g1,g2,g3,g4⟩:=ho x (by simp[hx]) b o e
     refine⟨g1,g2,g3,fun s' o' hs' nP=>?_⟩
     by_cases hk:s'=k
     · simp only[hk,if_true]at nP
       exact hq.1 x hx b o' o nP e
     · simp only[if_neg hk]at nP
       have aa2:(look (put st.heap k blk) s').isSome=true:=hs'
       rw[aV,if_neg hk]at aa2
       exact g4 s' o' aa2 nP
theorem Rel.KU (r : Rel w0 Pr M0 M β st a w) {w' : World} {M' : Nat → Prop} {hp' : Heap} (hsz : w.heap.size ≤ w'.heap.size) (hos : w'.os = w.os) (htp : w'.tape = w.tape) (hop : w'.output = w.output)
    (hkeep:∀ b,b<w.heap.size→(M b∨(b<w0.heap.size∧¬ Pr b))→w'.heap[b]?=w.heap[b]?) (hrm:∀ b n,b<w.heap.size→((∃ s o blk,look st.heap s=some blk∧β s=some (b,o)∧aeE blk n)∨(b<w0.n0∧Pr b))→Room w b n→Room w' b n)
    (h1:∀ b,M b→M' b) (h2:∀ b,M' b→M b∨(w.heap.size≤b∧b<w'.heap.size))
    (hnone:∀ s,look st.heap s=none→look hp' s=none)
    (hlk:∀ s blk,look st.heap s=some blk→∃ blk',look hp' s=some blk'∧((blk'=blk∧∀ b o,β s=some (b,o)→w'.heap[b]?=w.heap[b]?)∨(Like blk blk'∧BR w' M' β (look hp') s blk'))) :
    Rel w0 Pr M0 M' β { st with heap:=hp' } a w':=by
  have hM:∀ b,M b→M' b∧w'.heap[b]?=w.heap[b]?:=fun b h=>⟨h1 b h,hkeep b (r.fJ b h) (.inl h)⟩
  have hlive:∀ s,(look hp' s).isSome=true→(look st.heap s).isSome=true:=fun s h=>by
   cases he:look st.heap s with
   | none=>rw[hnone s he]at h;cases h
   | some b=>rfl
  have key:∀ (v:AV) (c:Value),AR w M β (look st.heap) v c→AR w' M' β (look hp') v c:=fun v c h =>
   h.abH hM fun s blk _ hl=>by
    obtain⟨blk',e1,e2⟩:=hlk s blk hl
    refine⟨blk',e1,?_,rfl,fun b o n h3 ha hr=>hrm b n (r.own s b o (by rw[hl];rfl) h3).2.1 (.inl ⟨s,o,blk,hl,h3,ha⟩) hr⟩
    rcases e2 with ⟨rfl,_⟩ | ⟨h,_⟩
    · exact Like.refl _
    · exact h
  refine⟨r.lV,fun t v h=>key _ _ (r.env t v h),?_,?_,fun s s' b o o' hl hl'=>r.inj s s' b o o' (hlive s hl) (hlive s' hl'),?_,?_,fun b h=>h1 b (r.oJ b h),?_,
   fun b n h3 h4 h5=>hrm b n (by have:=r.size;have:=w0.le';omega) (.inr ⟨h3,h4⟩) (r.room b n h3 h4 h5),by have:=r.size;omega,hos.trans r.os,htp.trans r.tape,hop.trans r.output,fun p hp=>⟨(hM _ (r.lK p hp).1).1,(hM _ (r.lK p hp).1).2.trans (r.lK p hp).2⟩⟩
  · intro s blk hl
    have hl':look hp' s=some blk:=hl
    cases he:look st.heap s with
    | none=>rw[hnone s he]at hl';cases hl'
    | some b0 =>
     obtain⟨blk',e1,e2⟩:=hlk s b0 he
     rw[hl']at e1;cases e1
     rcases e2 with ⟨rfl,hB⟩ | ⟨_,h⟩
     · show BR w' M' β (look hp') s _
       cases r.heap s _ he with
       | box cs b o C e fr g1 g2 g3 g4 g5 g6=>exact .box _ b o C e fr g1 (by rw[hB b o g1];exact g2) g3 g4 g5 fun j c hc=>key _ _ (g6 j c hc)
       | fM a ks=>exact .fM a ks
       | log on ys=>exact .log on ys
       | arr a ks xs b o C e fr g1 g2 g3 g4 g5 g6=>exact .arr a ks xs b o C e fr g1 (by rw[hB b o g1];exact g2) g3 g4 g5 fun i x j c hx hc=>(g6 i x j c hx hc).mono hM
       | tb t c0 c1 b C fr g1 g2 g3 g4 g5 g6 g7 g8=>exact .tb t c0 c1 b C fr g1 (by rw[hB b 0 g1];exact g2) g3 g4 g5 g6 (key _ _ g7) (key _ _ g8)
       | mp t es b o E k g1 g2 g3 g4=>exact .mp t es b o E k g1 (by rw[hB b o g1];exact g2) g3 fun i p e hi he=>⟨(g4 i p e hi he).1.mono hM,(g4 i p e hi he).2.mono hM⟩
       | DR e=>exact .DR e
       | br e xs b C fr g1 g2 g3 g4 g5 g6=>exact .br e xs b C fr g1 (by rw[hB b 0 g1];exact g2) g3 g4 g5 g6
     · exact h
  · intro s b o hl h3
    obtain⟨g1,g2,g3⟩:=r.own s b o (hlive s hl) h3
    refine⟨fun hm=>?_,by omega,g3⟩
    rcases h2 b hm with h | h
    · exact g1 h
    · omega
  · intro b h
    rcases h2 b h with h | h
    · have:=r.fJ b h;omega
    · omega
  · intro b h
    rcases h2 b h with h | h
    · exact r.jX b h
    · right;have:=r.size;have:=w0.le';exact⟨by omega,.inl (by omega)⟩
  · intro b h3 h4
    rw[hkeep b (by have:=r.size;omega) (.inr ⟨h3,h4⟩),r.keep b h3 h4]
theorem Rel.moved (r : Rel w0 Pr M0 M β st a w) {w' : World} {M' : Nat → Prop} {hp' : Heap} (hsz : w.heap.size ≤ w'.heap.size) (hos : w'.os = w.os) (htp : w'.tape = w.tape) (hop : w'.output = w.output)
    (hkeep:∀ b,b<w.heap.size→(M b∨(b<w0.heap.size∧¬ Pr b))→w'.heap[b]?=w.heap[b]?) (hrm:∀ b n,b<w.heap.size→((∃ s o,(look st.heap s).isSome=true∧β s=some (b,o))∨(b<w0.n0∧Pr b))→Room w b n→Room w' b n)
    (h1:∀ b,M b→M' b) (h2:∀ b,M' b→M b∨(w.heap.size≤b∧b<w'.heap.size))
    (hnone:∀ s,look st.heap s=none→look hp' s=none)
    (hlk:∀ s blk,look st.heap s=some blk→∃ blk',look hp' s=some blk'∧((blk'=blk∧∀ b o,β s=some (b,o)→w'.heap[b]?=w.heap[b]?)∨(Like blk blk'∧BR w' M' β (look hp') s blk'))) :
    Rel w0 Pr M0 M' β { st with heap:=hp' } a w' :=
  r.KU hsz hos htp hop hkeep (fun b n hb hc hr=>hrm b n hb (hc.imp (fun ⟨s,o,blk,h1,h2,_⟩=>⟨s,o,by rw[h1];rfl,h2⟩) id) hr) h1 h2 hnone hlk
end
end Go.Skm
namespace Go.Skm
section
variable {T:Tab}
theorem BR.Zz {w:World} {M M':Nat→Prop} {p:Option (Nat × Nat)} {h:Nat→Option aI} {a:Bool} {ks:List Kd} {xs:List PV} (h0:ks.all Kd.flat=true) (hb:BR w M (fun _=>p) h 0 (.arr a ks xs)):BR w M' (fun _=>p) h 0 (.arr a ks xs):=by
 cases hb with
 | fM=>exact .fM _ _
 | arr _ _ _ b o C e' fr g1 g2 g3 g4 g5 g6 =>
  refine .arr _ _ _ b o C e' fr g1 g2 g3 g4 g5 fun i x j y hx hy=>?_
  have hx':=g5 x (List.mem_of_getElem? hx)
  have hk:=eH (jS hx')
  have hj:j<ks.length:=by
   have:=(List.getElem?_eq_some_iff.1 hy).1
   have:=hk.1
   omega
  exact(g6 i x j y hx hy).N7 (List.all_eq_true.1 h0 ks[j] (by simp)) (hk.2 j ks[j] y (by simp) hy)
theorem Uw {w w' : World} {M M' : Nat → Prop} {ks : List Kd} {ys : List PV} {vs : Array Value} (hf : ks.all Kd.flat = true) (hk : bH ks ys = true) (hv : ∀ (i : Nat) (c : PV),ys[i]? = some c → VR w M c (vs.getD i undef)) :
    ∀ (i:Nat) (c:PV),ys[i]?=some c→VR w' M' c (vs.getD i undef):=by
  intro i c hc
  have hk:=eH hk
  have hj:i<ks.length:=by
   have:=(List.getElem?_eq_some_iff.1 hc).1
   have:=hk.1
   omega
  exact(hv i c hc).N7 (List.all_eq_true.1 hf ks[i] (by simp)) (hk.2 i ks[i] c (by simp) hc)
theorem qB.flat {w : World} {M M' : Nat → Prop} {β β' : Nat → Option (Nat × Nat)} {h h' : Nat → Option aI} {m : dX} {t : TypeId} {v : AV} {c : Value} {p : Option (Nat × Nat)}
    (h1:qB T w M β h m t v c p) (h0:yZ T m t=true) (hm:m=.deep∨m=.fresh∨m=.DI):qB T w M' β' h' m t v c p:=by
  cases h1 with
  | deep t x c hs hv=>exact .deep t x c hs (hv.flat h0 hs)
  | fresh t e xs c p hu hb hv =>
   simp only[yZ,hu]at h0
   refine .fresh t e xs c p hu ?_ ?_
   · generalize aB T e=sh at hb h0
     obtain⟨sa,ks⟩:=sh
     simp only at hb h0 ⊢
     cases hb with
     | fM=>exact .fM _ _
     | arr _ _ _ b o C e' fr g1 g2 g3 g4 g5 g6 =>
      refine .arr _ _ _ b o C e' fr g1 g2 g3 g4 g5 fun i x j y hx hy=>?_
      have hx':=g5 x (List.mem_of_getElem? hx)
      have hk:=eH (jS hx')
      have hj:j<ks.length:=by
       have:=(List.getElem?_eq_some_iff.1 hy).1
       have:=hk.1
       omega
      exact(g6 i x j y hx hy).N7 (List.all_eq_true.1 h0 ks[j] (by simp)) (hk.2 j ks[j] y (by simp) hy)
   · exact hv.gy rfl rfl rfl
  | DI t VK ks a ls ys xs vs p hsh hla hk hf hn hv hb hl =>
   simp only[yZ,hsh,hla,Bool.and_eq_true]at h0
   exact .DI t VK ks a ls ys xs vs p hsh hla hk hf hn (Uw hf hk hv) (hb.Zz h0.2) (hl.gy rfl rfl rfl)
  | alias j t e off len c hu hv=>rcases hm with h | h | h<;>cases h
  | func g qs t cs c hs hv=>rcases hm with h | h | h<;>cases h
  | vk g qs t cs c hs hv=>rcases hm with h | h | h<;>cases h
  | Cc g qs t=>rcases hm with h | h | h<;>cases h
  | IW t=>rcases hm with h | h | h<;>cases h
  | yc g t cs c hv=>rcases hm with h | h | h<;>cases h
theorem Ux {w : World} {M : Nat → Prop} {β : Nat → Option (Nat × Nat)} {h : Nat → Option aI} {ms : List dX} {ts : List TypeId} {rs : List AV} {cs : List Value} {ps : List (Option (Nat × Nat))}
    (hr:qA T w M β h ms ts rs cs ps) {b:Bool} (hb:H6 ms rs=some b):qA T w M β h (cond b (JZ ms) (Ug ms)) ts rs cs ps:=by
  induction hr with
  | nil ms=>exact .nil _
  | cons ms t ts v vs c cs p ps h1 h2 h3 ih =>
   cases ms with
   | nil=>simp[H6]at hb
   | cons m ms =>
    simp only[List.headD_cons,List.tail_cons]at h1 h2 ih
    have other:H6 ms vs=some b→(∀ x:Bool,(cond x (JZ (m::ms)) (Ug (m::ms)))=m::cond x (JZ ms) (Ug ms))→qA T w M β h (cond b (JZ (m::ms)) (Ug (m::ms))) (t::ts) (v::vs) (c::cs) (p::ps):=fun hn he=>by
     rw[he]
     exact .cons _ t ts v vs c cs p ps h1 (ih hn) h3
    cases h1 with
    | vk g qs _ cs' _ hs hv =>
     simp only[H6,List.headD_cons,AV.pv,PV.Ar,Option.some.injEq]at hb
     subst hb
     exact .cons _ t ts _ vs c cs _ ps (.func g qs t cs' c hs hv) h2 h3
    | Cc g qs _ =>
     simp only[H6,List.headD_cons,AV.pv,PV.Ar,Option.some.injEq]at hb
     subst hb
     exact .cons _ t ts _ vs _ cs _ ps (.IW t) h2 h3
    | deep=>exact other hb fun x=>by cases x<;>rfl
    | fresh=>exact other hb fun x=>by cases x<;>rfl
    | alias=>exact other hb fun x=>by cases x<;>rfl
    | func=>exact other hb fun x=>by cases x<;>rfl
    | IW=>exact other hb fun x=>by cases x<;>rfl
    | yc=>exact other hb fun x=>by cases x<;>rfl
    | DI=>exact other hb fun x=>by cases x<;>rfl
theorem Xv {ms : List dX} {rs : List AV} {F : List dX → DT} {α : Type} {k : Eff → Option α} {r : α} (hk : (J3 ms rs F).run k = some r) :
    ∃ ms',(F ms').run k=some r∧∀ (w:World) (M:Nat→Prop) (β:Nat→Option (Nat × Nat)) (h:Nat→Option aI) (ts:List TypeId) (cs:List Value) (ps:List (Option (Nat × Nat))),qA T w M β h ms ts rs cs ps→qA T w M β h ms' ts rs cs ps:=by
  unfold J3 at hk
  cases hn:H6 ms rs with
  | none=>rw[hn]at hk;exact⟨ms,hk,fun _ _ _ _ _ _ _ h=>h⟩
  | some b =>
   rw[hn]at hk
   simp only[DT.run]at hk
   refine⟨cond b (JZ ms) (Ug ms),?_,fun _ _ _ _ _ _ _ h=>Ux h hn⟩
   cases b<;>exact hk
section
variable {w:World} {M:Nat→Prop} {β:Nat→Option (Nat × Nat)}
theorem qB.mono {M M':Nat→Prop} {h:Nat→Option aI} {m:dX} {t:TypeId} {v:AV} {c:Value} {p:Option (Nat × Nat)} (hM:∀ b,M b→M' b) (hr:qB T w M β h m t v c p):qB T w M' β h m t v c p:=by
 have hM':∀ b,M b→M' b∧w.heap[b]?=w.heap[b]?:=fun b h=>⟨hM b h,rfl⟩
 cases hr with
 | deep _ x _ hs hv=>exact .deep t x c hs (hv.mono hM')
 | fresh _ e xs _ _ hu hb hv =>
  refine .fresh t e xs c p hu ?_ (hv.gy rfl rfl rfl)
  cases hb with
  | fM=>exact .fM _ _
  | arr _ _ _ b o C e' fr g1 g2 g3 g4 g5 g6=>exact .arr _ _ _ b o C e' fr g1 g2 g3 g4 g5 fun i x j c h1 h2=>(g6 i x j c h1 h2).mono hM'
 | func g qs _ cs _ hs hv=>exact .func g qs t cs c hs (hv.mono hM')
 | vk g qs _ cs _ hs hv=>exact .vk g qs t cs c hs (hv.mono hM')
 | Cc g qs _=>exact .Cc g qs t
 | IW _=>exact .IW t
 | yc g _ cs _ hv=>exact .yc g t cs c (hv.mono hM')
 | DI _ VK ks a ls ys xs vs _ hsh hla hk hf hn hv hb hl =>
  refine .DI t VK ks a ls ys xs vs p hsh hla hk hf hn (fun i c hc=>(hv i c hc).mono hM') ?_ (hl.gy rfl rfl rfl)
  cases hb with
  | fM=>exact .fM _ _
  | arr _ _ _ b o C e' fr g1 g2 g3 g4 g5 g6=>exact .arr _ _ _ b o C e' fr g1 g2 g3 g4 g5 fun i x j c h1 h2=>(g6 i x j c h1 h2).mono hM'
 | alias j _ e off len _ hu hv =>
  have:∃ blk,h (ah+j)=some blk:=by
   generalize (aB T e).2.length=z at hv
   cases hv with
   | slice _ _ _ a ks xs b o cap hs hl hb hcap hr=>exact⟨_,hs⟩
   | sliceE _ _ a ks xs base hs hl=>exact⟨_,hs⟩
  obtain⟨blk,hb⟩:=this
  exact .alias j t e off len c hu (hv.gy hb hb rfl)
theorem qA.mono {M M':Nat→Prop} {h:Nat→Option aI} {ms:List dX} {ts:List TypeId} {vs:List AV} {cs:List Value} {ps:List (Option (Nat × Nat))} (hM:∀ b,M b→M' b) (hr:qA T w M β h ms ts vs cs ps):qA T w M' β h ms ts vs cs ps:=by
 induction hr with
 | nil ms=>exact .nil ms
 | cons ms t ts v vs c cs p ps h1 h2 h3 ih=>exact .cons ms t ts v vs c cs p ps (h1.mono hM) ih h3
end
theorem KW:∀ (ks:List Kd) (x:PV) (o j:Nat),(wO ks x o)[j]?=(ks[j]?).map fun k=>eta k (x.dL (o+j))
 | [],_,_,j=>by simp[wO]
 | k::r,x,o,0=>by simp[wO]
 | k::r,x,o,j+1=>by
  simp only[wO,List.getElem?_cons_succ,KW r x (o+1) j]
  rw[show o+1+j=o+(j+1) from by omega]
theorem Xw {w:World} {M:Nat→Prop} {q:Bool × List Kd} {v:PV} {c:Value} (ho:QY q v=true) (h:VR w M v c):VR w M (Pq q v) c:=by
 obtain⟨b,ks⟩:=q
 cases b with
 | false =>
  match ks,ho with
  | [k],ho=>exact xg ho h
  | [],ho=>simp[QY]at ho
  | _::_::_,ho=>simp[QY]at ho
 | true =>
  cases h with
  | ref cs b o f hM hl hc hv =>
   have hk:=eH (show bH ks cs=true from ho)
   have hget:∀ (j:Nat) (y:PV),(wO ks (.ref cs) 0)[j]?=some y→∃ k z,ks[j]?=some k∧cs[j]?=some z∧y=eta k z:=by
    intro j y hy
    rw[KW]at hy
    cases hkj:ks[j]? with
    | none=>rw[hkj]at hy;cases hy
    | some k =>
     rw[hkj]at hy
     simp only[Option.map_some,Option.some.injEq,Nat.zero_add]at hy
     have hj:j<cs.length:=by
      have:=(List.getElem?_eq_some_iff.1 hkj).1
      have:=hk.1
      omega
     refine⟨k,cs[j],rfl,by simp,?_⟩
     rw[← hy];simp[PV.dL,List.getD,hj]
   refine .ref _ b o f hM (fun y hy=>?_) (fun j y hy=>?_) fun j y hy=>?_
   · obtain⟨j,hj⟩:=List.mem_iff_getElem?.1 hy
     obtain⟨k,z,h1,h2,rfl⟩:=hget j y hj
     exact EY (hk.2 j k z h1 h2)
   · obtain⟨k,z,h1,h2,rfl⟩:=hget j y hy
     exact hc j z h2
   · obtain⟨k,z,h1,h2,rfl⟩:=hget j y hy
     exact xg (hk.2 j k z h1 h2) (hv j z h2)
  | _=>cases ho
theorem KX:∀ {qs:List (Bool × List Kd)} {vs:List PV},vg qs vs=true→qs.length=vs.length∧∀ (j:Nat) (q:Bool × List Kd) (v:PV),qs[j]?=some q→vs[j]?=some v→QY q v=true
 | [],[],_=>⟨rfl,fun j q v h=>by simp at h⟩
 | q::qs,v::vs,h=>by
  simp[vg]at h
  obtain⟨h1,h2⟩:=KX h.2
  refine⟨by simp[h1],fun j q' v' hq hv=>?_⟩
  cases j with
  | zero=>simp at hq hv;subst hq hv;exact h.1
  | succ j=>simp at hq hv;exact h2 j q' v' hq hv
 | [],_::_,h | _::_,[],h=>by simp[vg]at h
theorem Ie:∀ (qs:List (Bool × List Kd)) (x:PV) (o j:Nat),(lI qs x o)[j]?=(qs[j]?).map fun q=>Pq q (x.cap (o+j))
 | [],_,_,j=>by simp[lI]
 | k::r,x,o,0=>by simp[lI]
 | k::r,x,o,j+1=>by
  simp only[lI,List.getElem?_cons_succ,Ie r x (o+1) j]
  rw[show o+1+j=o+(j+1) from by omega]
theorem KY:∀ {k:Kd} {v:PV},PK k v=true→eta k v=v:=by
 intro k v h
 cases k<;>cases v<;>simp[PK,kindOk]at h<;>first | rfl | skip
 · subst h;rfl
 · obtain⟨rfl,h2⟩:=h
   have:=Kd.jY _ _ h2
   subst this;rfl
theorem Ig:∀ {ks:List Kd} {cs:List PV} (pre:List PV),BQ ks cs=true→wO ks (.ref (pre++cs)) pre.length=cs
 | [],[],_,_=>rfl
 | [],_::_,_,h=>by simp[BQ]at h
 | _::_,[],_,h=>by simp[BQ]at h
 | k::ks,c::cs,pre,h=>by
  simp only[BQ,Bool.and_eq_true]at h
  have ih:=Ig (pre++[c]) h.2
  rw[List.append_assoc,List.singleton_append,List.length_append,List.length_singleton]at ih
  unfold wO
  rw[ih]
  have e:(PV.ref (pre++c::cs)).dL pre.length=c:=by simp[PV.dL,List.getD]
  rw[e,KY h.1]
theorem Xx {q:Bool × List Kd} {v:PV} (h:NR q v=true):Pq q v=v:=by
 obtain⟨b,ks⟩:=q
 cases b with
 | true =>
  cases v<;>simp[NR]at h
  rename_i cs
  have:=Ig [] h
  simp only[List.nil_append,List.length_nil]at this
  show PV.ref (wO ks (.ref cs) 0)=.ref cs
  rw[this]
 | false =>
  match ks,h with
  | [k],h=>exact KY (by simpa [NR] using h)
  | [],h=>simp[NR]at h
  | _::_::_,h=>simp[NR]at h
theorem KZ:∀ {qs:List (Bool × List Kd)} {cs:List PV} (g:Nat) (pre:List PV),Gx qs cs=true→lI qs (.fn g (pre++cs)) pre.length=cs
 | [],[],_,_,_=>rfl
 | [],_::_,_,_,h=>by simp[Gx]at h
 | _::_,[],_,_,h=>by simp[Gx]at h
 | q::qs,c::cs,g,pre,h=>by
  simp only[Gx,Bool.and_eq_true]at h
  have ih:=KZ g (pre++[c]) h.2
  rw[List.append_assoc,List.singleton_append,List.length_append,List.length_singleton]at ih
  unfold lI
  rw[ih]
  have e:(PV.fn g (pre++c::cs)).cap pre.length=c:=by simp[PV.cap,List.getD]
  rw[e,Xx h.1]
theorem ZA {g:Nat} {qs:List (Bool × List Kd)} {v:PV} (h:PV.isFn g qs v=true):PV.fn g (lI qs v 0)=v:=by
 cases v<;>simp[PV.isFn]at h
 rename_i f cs
 obtain⟨rfl,h2⟩:=h
 have:=KZ f [] h2
 simp only[List.nil_append,List.length_nil]at this
 rw[this]
section
variable {α:Type}
theorem Ih {K:St→Option α} {x:α} {st:St} {t:Nat}:∀ {cs:List (Nat × List (Bool × List Kd))},AQ cs t st K=some x→K st=some x∧∀ K':St→Option α,AQ cs t st K'=K' st
 | [],h=>by simp[AQ]at h
 | (g,qs)::r,h=>by
  unfold AQ at h
  cases hc:((st.env.getD t .undef).isP&&PV.isFn g qs (st.env.getD t .undef).pv) with
  | false =>
   rw[hc,cond_false]at h
   obtain⟨h1,h2⟩:=Ih h
   exact⟨h1,fun K'=>by unfold AQ;rw[hc,cond_false];exact h2 K'⟩
  | true =>
   have hc':=hc
   rw[Bool.and_eq_true]at hc'
   have e1:AV.p (.fn g (lI qs (st.env.getD t .undef).pv 0))=st.env.getD t .undef:=by
    rw[ZA hc'.2]
    cases hv:st.env.getD t .undef<;>rw[hv]at hc'<;>simp[AV.isP]at hc'
    rfl
   have hlt:t<st.env.length:=by
    by_cases hl:t<st.env.length
    · exact hl
    · have:st.env.getD t .undef=.undef:=by simp[List.getD,List.getElem?_eq_none (by omega:st.env.length≤t)]
      rw[this]at hc'
      simp[AV.isP]at hc'
   have e2:st.env.set t (.p (.fn g (lI qs (st.env.getD t .undef).pv 0)))=st.env:=by
    rw[e1]
    apply List.ext_getElem?
    intro i
    rw[List.getElem?_set]
    by_cases hi:t=i
    · subst hi
      rw[if_pos rfl,if_pos hlt,List.getD_eq_getElem?_getD,List.getElem?_eq_getElem hlt];rfl
    · rw[if_neg hi]
   rw[hc,cond_true,e2]at h
   exact⟨h,fun K'=>by unfold AQ;rw[hc,cond_true,e2]⟩
theorem iy {K:St→Option α} {x:α}:∀ {as:List (Nat × List (Nat × List (Bool × List Kd)))} {st:St},yu as st K=some x→K st=some x∧∀ K':St→Option α,yu as st K'=K' st
 | [],st,h=>⟨h,fun _=>rfl⟩
 | (t,cs)::r,st,h=>by
  unfold yu at h
  obtain⟨h1,h2⟩:=Ih h
  obtain⟨h3,h4⟩:=iy h1
  exact⟨h3,fun K'=>by unfold yu;rw[h2,h4]⟩
end
theorem AZ:∀ (ks:List (Bool × List Kd)) (x:PV) (o:Nat),(lI ks x o).length=ks.length
 | [],_,_=>rfl
 | k::r,x,o=>by simp[lI,AZ r]
theorem VR.P7 {w:World} {M:Nat→Prop} {g:Nat} {qs:List (Bool × List Kd)} {cs:List PV} {c:Value} (ho:vg qs cs=true) (h:VR w M (.fn g cs) c):VR w M (.fn g (lI qs (.fn g cs) 0)) c:=by
 cases h with
 | fn _ _ vs hn hc =>
  have hk:=KX ho
  refine .fn g _ vs (by rw[hn,AZ];exact hk.1.symm) fun i y hy=>?_
  rw[Ie]at hy
  cases hq:qs[i]? with
  | none=>rw[hq]at hy;cases hy
  | some q =>
   rw[hq]at hy
   simp only[Option.map_some,Option.some.injEq,Nat.zero_add]at hy
   have hi:i<cs.length:=by
    have:=(List.getElem?_eq_some_iff.1 hq).1
    have:=hk.1
    omega
   have e:(PV.fn g cs).cap i=cs[i]:=by simp[PV.cap,List.getD,hi]
   rw[← hy,e]
   exact Xw (hk.2 i q cs[i] hq (by simp)) (hc i cs[i] (by simp))
theorem kX:∀ (ks:List Kd) (x:PV) (o:Nat),(eF ks x o).length=ks.length
 | [],_,_=>rfl
 | k::ks,x,o=>by rw[eF,List.length_cons,kX ks x (o+1),List.length_cons]
theorem Uy {w : World} {M : Nat → Prop} {βa : Nat → Option (Nat × Nat)} {ha : Nat → Option aI} {d : Nat} {ss : List Nat} {ms : List dX} {ts : List TypeId} {rs : List AV} {cs : List Value} {ps : List (Option (Nat × Nat))}
    (hr:qA T w M βa ha ms ts rs cs ps):∀ {i:Nat} {xs:List AV} {bs:List (Nat × aI)},pY T d ss i ms ts rs=some (xs,bs)→∃ l:List IZ,bs=zL l∧(∀ x∈l,∃ j,i≤j∧x.1=d+1000*j)∧l.Pairwise (fun x y=>x.1≠y.1) ∧
      l.Pairwise (fun x y=>∀ b o o',x.2.2=some (b,o)→y.2.2≠some (b,o'))∧(∀ x∈l,∀ b o,x.2.2=some (b,o)→some (b,o)∈ps) ∧
      (∀ x∈l,∃ sa ks ys,x.2.1=.arr sa ks ys∧BR w M (fun _=>x.2.2) (fun _=>none) 0 x.2.1)∧xs.length=cs.length ∧
      ∀ (h:Nat→Option aI) (β:Nat→Option (Nat × Nat)),(∀ x∈l,h x.1=some x.2.1∧β x.1=x.2.2)→(∀ j s blk,ss[j]?=some s→ha (ah+j)=some blk→h s=some blk∧β s=βa (ah+j)) →
       ∀ (k:Nat) (v:AV),xs[k]?=some v→∃ c,cs[k]?=some c∧AR w M β h v c:=by
  induction hr with
  | nil ms =>
   intro i xs bs h
   simp only[pY,Option.some.injEq,Prod.mk.injEq]at h
   obtain⟨rfl,rfl⟩:=h
   exact⟨[],rfl,by simp,.nil,.nil,by simp,by simp,rfl,fun _ _ _ _ k v hk=>by simp at hk⟩
  | cons ms t ts v vs c cs p ps h1 h2 h3 ih =>
   intro i xs bs h
   simp only[pY,List.headD_cons,List.tail_cons]at h
   split at h
   · rename_i x1 b1 xr br e1 e2
     simp only[Option.some.injEq,Prod.mk.injEq]at h
     obtain⟨rfl,rfl⟩:=h
     obtain⟨l,q1,q2,q3,q4,q5,q6,q7,q8⟩:=ih e2
     have uI : b1 = [] → (∀ (h : Nat → Option aI) (β : Nat → Option (Nat × Nat)),(∀ j s blk,ss[j]? = some s → ha (ah + j) = some blk → h s = some blk ∧ β s = βa (ah + j)) → AR w M β h x1 c) →
         ∃ l:List IZ,b1++br=zL l∧(∀ x∈l,∃ j,i≤j∧x.1=d+1000*j)∧l.Pairwise (fun x y=>x.1≠y.1) ∧
     l.Pairwise (fun x y=>∀ b o o',x.2.2=some (b,o)→y.2.2≠some (b,o'))∧(∀ x∈l,∀ b o,x.2.2=some (b,o)→some (b,o)∈p::ps) ∧
     (∀ x∈l,∃ sa ks ys,x.2.1=.arr sa ks ys∧BR w M (fun _=>x.2.2) (fun _=>none) 0 x.2.1)∧(x1::xr).length=(c::cs).length ∧
     ∀ (h:Nat→Option aI) (β:Nat→Option (Nat × Nat)),(∀ x∈l,h x.1=some x.2.1∧β x.1=x.2.2)→(∀ j s blk,ss[j]?=some s→ha (ah+j)=some blk→h s=some blk∧β s=βa (ah+j)) →
      ∀ (k:Nat) (v:AV),(x1::xr)[k]?=some v→∃ c',(c::cs)[k]?=some c'∧AR w M β h v c':=by
      intro hb hx
      subst hb
      refine⟨l,by simpa using q1,fun x hx=>?_,q3,q4,fun x hx b o e=>by simp[q5 x hx b o e],q6,by simp[q7],fun h β g1 g2 k v hk=>?_⟩
      · obtain⟨j,hj1,hj2⟩:=q2 x hx
        exact⟨j,by omega,hj2⟩
      · cases k with
        | zero=>simp at hk;subst hk;exact⟨c,rfl,hx h β g2⟩
        | succ k=>simp at hk;simpa using q8 h β g1 g2 k v hk
     revert h1 e1
     generalize ms.headD .deep=m
     intro h1 e1
     cases h1 with
     | deep t x c hs hv =>
      simp only[wW,AV.pv]at e1
      generalize aB T t=sh at hs e1
      obtain⟨sa,ks⟩:=sh
      simp only at hs e1
      split at e1
      · rename_i ks' e
        obtain⟨rfl,rfl⟩:=Prod.mk.inj e
        simp only[Option.some.injEq,Prod.mk.injEq]at e1
        obtain⟨rfl,rfl⟩:=e1
        exact uI rfl fun _ _ _=>.p _ _ (hv.written hs)
      · rename_i k e
        obtain⟨rfl,rfl⟩:=Prod.mk.inj e
        simp only[Option.some.injEq,Prod.mk.injEq]at e1
        obtain⟨rfl,rfl⟩:=e1
        exact uI rfl fun _ _ _=>.p _ _ (xg (by simpa [aA] using hs) hv)
      · cases e1
     | func g qs t cs c hs hv =>
      simp only[wW,AV.pv,Option.some.injEq,Prod.mk.injEq]at e1
      obtain⟨rfl,rfl⟩:=e1
      exact uI rfl fun _ _ _=>.p _ _ (hv.P7 hs)
     | vk g qs t cs c hs hv=>simp[wW]at e1
     | Cc g qs t=>simp[wW]at e1
     | IW t =>
      simp only[wW,Option.some.injEq,Prod.mk.injEq]at e1
      obtain⟨rfl,rfl⟩:=e1
      exact uI rfl fun _ _ _=>.p _ _ .jL
     | yc g t cs c hv =>
      simp only[wW,AV.pv,Option.some.injEq,Prod.mk.injEq]at e1
      obtain⟨rfl,rfl⟩:=e1
      exact uI rfl fun _ _ _=>.p _ _ hv
     | alias j t e off len c hu hv =>
      simp only[wW,hu,AV.Es,AV.sLen]at e1
      cases hj:ss[j]? with
      | none=>rw[hj]at e1;cases e1
      | some s =>
       rw[hj]at e1
       simp only[Option.some.injEq,Prod.mk.injEq]at e1
       obtain⟨rfl,rfl⟩:=e1
       refine uI rfl fun h β g=>?_
       have:∃ blk,ha (ah+j)=some blk:=by
        generalize (aB T e).2.length=z at hv
        cases hv with
        | slice _ _ _ a ks xs b o cap hs hl hb hcap hr=>exact⟨_,hs⟩
        | sliceE _ _ a ks xs base hs hl=>exact⟨_,hs⟩
       obtain⟨blk,hblk⟩:=this
       obtain⟨g1,g2⟩:=g j s blk hj hblk
       exact hv.gy hblk g1 g2
     | fresh t e ys c p hu hb hv =>
      simp only[wW,hu,AV.ak,Option.some.injEq,Prod.mk.injEq]at e1
      obtain⟨rfl,rfl⟩:=e1
      refine⟨(d+1000*i,.arr (aB T e).1 (aB T e).2 ys,p)::l,by simp[zL,q1],fun x hx=>?_,List.pairwise_cons.2 ⟨fun x hx=>?_,q3⟩,List.pairwise_cons.2 ⟨fun x hx b o o' e1 e2=>?_,q4⟩,fun x hx b o e1=>?_,fun x hx=>?_,by simp[q7],fun h β g1 g2 k v hk=>?_⟩
      · rcases List.mem_cons.1 hx with rfl | hx
        · exact⟨i,Nat.le_refl _,rfl⟩
        · obtain⟨j,hj1,hj2⟩:=q2 x hx
          exact⟨j,by omega,hj2⟩
      · obtain⟨j,hj1,hj2⟩:=q2 x hx
        rw[hj2];simp only;omega
      · exact h3 b o o' e1 (q5 x hx b o' e2)
      · rcases List.mem_cons.1 hx with rfl | hx
        · simp only at e1;simp[e1]
        · simp[q5 x hx b o e1]
      · rcases List.mem_cons.1 hx with rfl | hx
        · exact⟨_,_,_,rfl,hb.KT rfl⟩
        · exact q6 x hx
      · cases k with
        | zero =>
         simp at hk;subst hk
         obtain⟨g3,g4⟩:=g1 _ List.mem_cons_self
         exact⟨c,rfl,hv.gy rfl g3 g4⟩
        | succ k=>simp at hk;simpa using q8 h β (fun x hx=>g1 x (by simp[hx])) g2 k v hk
     | DI t VK ks a ls ys zs vs p hsh hla hk hf hn hvs hb hl =>
      have el:AV.Ja (.agg (ys.map .p++[.fresh a ls zs]))=zs:=by simp[AV.Ja,AV.ak]
      simp only[wW,hsh,hla,el,Option.some.injEq,Prod.mk.injEq]at e1
      obtain⟨rfl,rfl⟩:=e1
      refine⟨(d+1000*i,.arr a ls zs,p)::l,by simp[zL,q1],fun x hx=>?_,List.pairwise_cons.2 ⟨fun x hx=>?_,q3⟩,List.pairwise_cons.2 ⟨fun x hx b o o' e1 e2=>?_,q4⟩,fun x hx b o e1=>?_,fun x hx=>?_,by simp[q7],fun h β g1 g2 k v hk'=>?_⟩
      · rcases List.mem_cons.1 hx with rfl | hx
        · exact⟨i,Nat.le_refl _,rfl⟩
        · obtain⟨j,hj1,hj2⟩:=q2 x hx
          exact⟨j,by omega,hj2⟩
      · obtain⟨j,hj1,hj2⟩:=q2 x hx
        rw[hj2];simp only;omega
      · exact h3 b o o' e1 (q5 x hx b o' e2)
      · rcases List.mem_cons.1 hx with rfl | hx
        · simp only at e1;simp[e1]
        · simp[q5 x hx b o e1]
      · rcases List.mem_cons.1 hx with rfl | hx
        · exact⟨_,_,_,rfl,hb.KT rfl⟩
        · exact q6 x hx
      · cases k with
        | zero =>
         simp at hk';subst hk'
         obtain⟨g3,g4⟩:=g1 _ List.mem_cons_self
         refine⟨.agg vs,rfl,?_⟩
         have hkl:=(eH hk).1
         have hcell:∀ (j:Nat) (c:PV),(eF ks (AV.agg (ys.map .p++[.fresh a ls zs])).Q7 0)[j]?=some c→∃ q y,ks[j]?=some q∧ys[j]?=some y∧kindOk q y=true∧c=eta q y:=by
          intro j c hc
          rw[oW]at hc
          cases hq:ks[j]? with
          | none=>rw[hq]at hc;cases hc
          | some q =>
           rw[hq]at hc
           simp only[Option.map_some,Option.some.injEq]at hc
           have hj:j<ks.length:=(List.getElem?_eq_some_iff.1 hq).1
           have hy:j<ys.length:=by omega
           have he:((AV.agg (ys.map .p++[.fresh a ls zs])).Q7.cell (0+j))=ys[j]:=by
            simp[AV.Q7,PV.cell,List.getD_eq_getElem?_getD,List.getElem?_append_left,hy,AV.pv]
           rw[he]at hc
           exact⟨q,ys[j],rfl,by simp[hy],(eH hk).2 j q ys[j] hq (by simp[hy]),hc.symm⟩
         refine .agg _ _ (by simp[hn,kX,hkl]) (fun c hc=>?_) fun j c hc=>?_
         · rcases List.mem_append.1 hc with hc | hc
           · obtain⟨x,hx,rfl⟩:=List.mem_map.1 hc
             obtain⟨j,hj⟩:=List.mem_iff_getElem?.1 hx
             obtain⟨q,y,_,_,g5,rfl⟩:=hcell j x hj
             exact EY g5
           · rw[List.mem_singleton.1 hc];rfl
         · by_cases hj:j<ks.length
           · rw[List.getElem?_append_left (by simp[kX,hj]),List.getElem?_map]at hc
             cases hq:(eF ks (AV.agg (ys.map .p++[.fresh a ls zs])).Q7 0)[j]? with
             | none=>rw[hq]at hc;cases hc
             | some x =>
              rw[hq]at hc
              simp only[Option.map_some,Option.some.injEq]at hc
              subst hc
              obtain⟨q,y,_,g4',g5,rfl⟩:=hcell j x hq
              exact .p _ _ (xg g5 (hvs j y g4'))
           · have hj' : j = ks.length := by
               have:=(List.getElem?_eq_some_iff.1 hc).1
               simp[kX]at this
               omega
             rw[List.getElem?_append_right (by simp[kX,hj'])]at hc
             simp only[kX,List.length_map,hj',Nat.sub_self,List.getElem?_cons_zero,Option.some.injEq]at hc
             subst hc
             rw[hj',hkl]
             exact hl.gy rfl g3 g4
        | succ k=>simp at hk';simpa using q8 h β (fun x hx=>g1 x (by simp[hx])) g2 k v hk'
   · cases h
end
end Go.Skm
namespace Go.Skm
def FW (rd:Option Nat):Fence:={ Fence.wide with round:=rd }
theorem yE (rd:Option Nat) {n:Nat}:(FW rd).depth.isSome=true→1≤n:=fun h=>by simp[FW,Fence.wide]at h
theorem bW {P:Program} {f:FuncId} {args:Array Value} {w:World} {R:Ending→World→Prop} (rd:Option Nat) {n:Nat} (h:Calls P f args w R):CallsIn (FW rd) n P f args w R :=
 (callsIn_wide (n:=n)).2 h
theorem mM {P:Program} {f:FuncId} {args:Array Value} {w:World} {R:Ending→World→Prop} {rd:Option Nat} {n:Nat} (h:CallsIn (FW rd) n P f args w R):Calls P f args w R :=
 (callsIn_wide (n:=n)).1 h
theorem qP {P : Program} {o : Oper} {a : Act} {w : World} {K : Act → World → Prop} {Q : Exit → Act → World → Prop} {rd : Option Nat} {n : Nat} (hnd : ∀ c,o.op ≠ .defer c)
    (h:o.uponIn (FW rd) n P a K Q ((execOp a.eval o).run P w)):o.wpIn (FW rd) n P a w K Q :=
  ⟨fun _ _=>trivial,by rw[Oper.semAt_plain (FW rd) a.eval o hnd];exact h⟩
structure dI (P:Program) (w0:Base) (Pr M0:Nat→Prop) (β:Nat→Option (Nat × Nat)) (st:St) (a:Act) (w:World) (o:Oper) (D:DT):Prop where
 Zl:(∀ c,o.op≠.defer c)→∀ (α:Type) (k:Eff→Option α) (r:α),D.run k=some r→∀ (rd:Option Nat) (n:Nat) Q,Oper.wpIn (FW rd) n P o a w (fun a' w'=>(∃ c,a'=a.put o.dst c)∧∃ e M' β',k e=some r∧gZ w0.gl w.drawn w'.drawn∧(fU (e.new++e.wP)=true →
  Rel w0 Pr M0 M' β' (st.apply o.dst e) a' w'∧(∀ s,ah≤s→β' s=β s)∧iM st.heap (st.apply o.dst e).heap)) Q
section
variable {P:Program} {T:Tab} {w0:Base} {Pr M0 M:Nat→Prop} {β:Nat→Option (Nat × Nat)} {st:St} {a:Act} {w:World} {o:Oper}
theorem GL {α:Type} {c:Option (List AV × List aI)} {f:List AV × List aI→DT} {k:Eff→Option α} {r:α} (h:(DT.call c f).run k=some r):∃ x,c=some x∧(f x).run k=some r:=by
 cases c with
 | none=>simp[DT.run]at h
 | some x=>exact⟨x,rfl,by simpa [DT.run] using h⟩
theorem aO.op {D:DT} (h:aO P w0 Pr M0 β st a w o.dst D (execOp a.eval o)):dI P w0 Pr M0 β st a w o D:=by
 refine⟨fun hnd α k r hk rd n Q=>?_⟩
 obtain⟨e,nv,c,w',M',β',h1,h2,h3,h4⟩:=h.Zl α k r hk
 refine qP hnd ?_
 have hd:gZ w0.gl w.drawn w'.drawn:=fun _=>Xh _ h2
 rw[h2]
 rcases h3 with rfl | ⟨rfl,rfl⟩
 · exact⟨⟨_,rfl⟩,e,M',β',h1,hd,h4⟩
 · exact⟨⟨_,rfl⟩,e,M',β',h1,hd,h4⟩
theorem D6 {s:Nat}:∀ {l:List IZ},s∈keysOf (zL l)↔∃ x∈l,x.1=s
 | []=>by simp[zL,keysOf]
 | (k,b,p)::r=>by
  have ih:=D6 (s:=s) (l:=r)
  simp only[zL,List.map_cons,keysOf,List.mem_cons]at ih ⊢
  rw[ih]
  constructor
  · rintro (rfl | ⟨x,hx,rfl⟩)
    · exact⟨_,.inl rfl,rfl⟩
    · exact⟨x,.inr hx,rfl⟩
  · rintro ⟨x,rfl | hx,rfl⟩
    · exact .inl rfl
    · exact .inr ⟨x,hx,rfl⟩
theorem aa3 {h:Nat→Option aI} {xs:List AV} {cs:List Value} (hl:xs.length=cs.length) (hx:∀ (k:Nat) (v:AV),xs[k]?=some v→∃ c,cs[k]?=some c∧AR w M β h v c):AR w M β h (mg xs) (rP cs):=by
 match xs,cs,hl,hx with
 | [v],[c],_,hx =>
  obtain⟨c',h1,h2⟩:=hx 0 v rfl
  simp at h1;subst h1;exact h2
 | [],[],_,_=>exact .mG [] #[] rfl fun i c hi=>by simp at hi
 | x::y::xs,c::d::cs,hl,hx =>
  refine .mG _ _ (by simp at hl;simp[hl]) fun i v hi=>?_
  obtain⟨c',h1,h2⟩:=hx i v hi
  have:(c::d::cs).toArray.getD i undef=c':=by
   simp only[Array.getD_eq_getD_getElem?,List.getElem?_toArray,h1,Option.getD_some]
  rw[this];exact h2
 | [],_::_,hl,_=>simp at hl
 | _::_,[],hl,_=>simp at hl
 | [_],_::_::_,hl,_=>simp at hl
 | _::_::_,[_],hl,_=>simp at hl
theorem Rel.results (r : Rel w0 Pr M0 M β st a w) {βa : Nat → Option (Nat × Nat)} {ha : Nat → Option aI} {d : Nat} {ss : List Nat} {ms : List dX} {ts : List TypeId} {rs : List AV} {cs : List Value} {ps : List (Option (Nat × Nat))}
    {xs:List AV} {bs:List (Nat × aI)} (hr:qA T w M βa ha ms ts rs cs ps) (hv:pY T d ss 0 ms ts rs=some (xs,bs)) (hfree:∀ s∈keysOf bs,look st.heap s=none)
    (hown:∀ b o,some (b,o)∈ps→¬ M b∧b<w.heap.size∧w0.heap.size≤b∧∀ s' o',(look st.heap s').isSome=true→β s'≠some (b,o'))
    (harg:∀ j s blk,ss[j]?=some s→ha (ah+j)=some blk→look st.heap s=some blk∧β s=βa (ah+j)) :
    ∃ β',Rel w0 Pr M0 M β' { env:=Skm.setEnv st.env (some d) (mg xs),heap:=cZ st.heap bs } (a.put (some d) (rP cs)) w∧∀ s,s ∉ keysOf bs→β' s=β s:=by
  obtain⟨l,rfl,q2,q3,q4,q5,q6,q7,q8⟩:=Uy hr hv
  have hfr:∀ x∈l,look st.heap x.1=none:=fun x hx=>hfree x.1 (D6.2 ⟨x,hx,rfl⟩)
  have r1:=Rel.lays l r q3 hfr q4 (fun x hx b o e=>hown b o (q5 x hx b o e)) q6
  refine⟨overlay β l,r1.setEnv (some d) (aa3 q7 (q8 _ _ (fun x hx=>⟨N8 q3 hx,KR q3 hx⟩) fun j s blk h1 h2=>?_)),fun s hs=>wE fun x hx e=>hs (D6.2 ⟨x,hx,e⟩)⟩
  obtain⟨g1,g2⟩:=harg j s blk h1 h2
  have hne:∀ x∈l,x.1≠s:=fun x hx e=>by rw[← e,hfr x hx]at g1;cases g1
  exact⟨(D5 hne).trans g1,(wE hne).trans g2⟩
theorem yF (ok:bP P T) {f:Nat} {fi:FI} (hf:bG T.funcs f=some fi) (hb:∃ c,fi.fn.body=some c) (args:Array Value):(callFunc f args).run P w=.ok (.enter f args) w:=by
 obtain⟨h1,h2,_⟩:=ok.funcs f fi hf
 obtain⟨c,hc⟩:=hb
 unfold callFunc
 simp only[Sem.run_bind,program,Sem.run,Result.andThen_ok,h1,h2,hc,Option.isNone_some,Bool.false_eq_true,if_false,Sem.run_pure]
theorem Dj (st : St) (d : Option Nat) (v : AV) (bs : List (Nat × aI)) (nw fz : List Nat) : st.apply d { val := v,lJ := bs,new := nw,wP := fz } =
    { env:=Skm.setEnv (st.strike (present st.heap nw++fz)).env d v,heap:=cZ (st.strike (present st.heap nw++fz)).heap bs }:=rfl
theorem wF {nw fz:List Nat} {s:Nat} (hs:s∈nw):look (st.strike (present st.heap nw++fz)).heap s=none:=by
 rw[bQ]
 by_cases hm:s∈present st.heap nw++fz
 · rw[if_pos hm]
 · rw[if_neg hm]
   cases hd:look st.heap s with
   | none=>rfl
   | some x=>exact absurd (List.mem_append.2 (.inl (oZ hs (by rw[hd];rfl)))) hm
theorem Rz {ss:List Nat} {s:Nat} (h:(look (st.strike ss).heap s).isSome=true):s ∉ ss∧(look st.heap s).isSome=true:=by
 rw[bQ]at h
 by_cases hm:s∈ss
 · rw[if_pos hm]at h;cases h
 · rw[if_neg hm]at h;exact⟨hm,by simpa using h⟩
theorem Xy {sh:Bool × List Kd} {x:PV} {M:Nat→Prop} {c:Value} (h:VR w M x c):VR w M (Uf sh x) c:=by
 unfold Uf
 split
 · cases h;exact .kD _ _ none 0
 · exact h
theorem sS:∀ (ts:List TypeId) (vs:List PV),(normArgs T ts vs).length=vs.length
 | [],vs=>by simp[normArgs]
 | t::ts,[]=>rfl
 | t::ts,v::vs=>by simp[normArgs,sS ts vs]
theorem Fa:∀ (ts:List TypeId) (vs:List PV) (i:Nat) (v:AV),(normArgs T ts vs)[i]?=some v→∃ x,vs[i]?=some x∧∀ (M:Nat→Prop) (β:Nat→Option (Nat × Nat)) (h:Nat→Option aI) (c:Value),VR w M x c→AR w M β h v c
 | [],vs,i,v,h=>by
  simp only[normArgs,List.getElem?_map,Option.map_eq_some_iff]at h
  obtain⟨x,hx,rfl⟩:=h
  exact⟨x,hx,fun M β h c hv=>.p _ _ hv⟩
 | t::ts,[],i,v,h=>by simp[normArgs]at h
 | t::ts,x::vs,0,v,h=>by
  simp only[normArgs,List.getElem?_cons_zero,Option.some.injEq]at h
  subst h
  exact⟨x,rfl,fun M β h c hv=>.p _ _ (Xy hv)⟩
 | t::ts,x::vs,i+1,v,h=>by
  simp only[normArgs,List.getElem?_cons_succ]at h
  simpa using Fa ts vs i v h
theorem Ii (raw:Bool) (ts:List TypeId) (vs:List PV) (i:Nat) (v:AV) (h:(cond raw (vs.map .p) (normArgs T ts vs))[i]?=some v):∃ x,vs[i]?=some x∧∀ (M:Nat→Prop) (β:Nat→Option (Nat × Nat)) (h:Nat→Option aI) (c:Value),VR w M x c→AR w M β h v c:=by
 cases raw with
 | false=>exact Fa ts vs i v h
 | true =>
  simp only[cond_true,List.getElem?_map,Option.map_eq_some_iff]at h
  obtain⟨x,hx,rfl⟩:=h
  exact⟨x,hx,fun M β h c hv=>.p _ _ hv⟩
theorem Xz (ok : bP P T) {C : aF} (hC : gX P T w0.gl C) (r : Rel w0 Pr M0 M β st a w) {h' : Nat → Option aI} (hsub : ∀ s b,h' s = some b → look st.heap s = some b) {d f : Nat} {fi : FI} {args : List AV} {aG : Array Value}
    (hd:o.dst=some d) (hf:bG T.funcs f=some fi) (hm:fi.cfg.zD=false) (hargs:kW w M β (look st.heap) args aG.toList) (he:(execOp a.eval o).run P w=(callFunc f aG).run P w) :
    dI P w0 Pr M0 β st a w o (nI T C h' o.dst f args):=by
  rw[hd]
  simp only[nI,hf,hm]
  cases hdp:C9 h' args with
  | none=>exact⟨fun _ _ _ _ hk=>by simp[DT.run]at hk⟩
  | some q =>
   obtain⟨vs,ss⟩:=q
   refine⟨fun hnd α k res hk rd n Q=>?_⟩
   obtain⟨⟨rs,iU⟩,hcall,hk⟩:=GL hk
   obtain⟨hbody,D7⟩:=hC.plain f fi _ [] rs iU hf (by simp) hcall
   obtain⟨d1,d2,d3⟩:=E5 (fun s b h=>r.heap s b (hsub s b h)) hsub hdp hargs
   obtain⟨ms',hk,hms⟩:=Xv (T:=T) hk
   cases hres:pY T d [] 0 ms' fi.fn.resultTypes.toList rs with
   | none=>rw[hres]at hk;simp[DT.run]at hk
   | some xb =>
    obtain⟨xs,bs⟩:=xb
    rw[hres]at hk
    simp only[DT.run]at hk
    refine qP hnd ?_
    rw[he,yF ok hf hbody,Oper.uponIn_enter]
    refine⟨yE rd,bW rd ?_⟩
    have hpre:oH w (aY M β ss) β (cond fi.cfg.yR (vs.map .p) (normArgs T fi.fn.params.toList vs)) [] aG:=by
     refine⟨by cases fi.cfg.yR<;>simp[d1,sS],fun i v hi=>?_,fun i b0 hi=>by simp at hi,fun i b o hi=>by simp at hi,fun i j b o o' hi=>by simp at hi,fun b hb=>?_⟩
     · obtain⟨x,hx,hv⟩:=Ii (T:=T) (w:=w) fi.cfg.yR _ _ i v hi
       have hlt:i<aG.toList.length:=by rw[← d1];exact(List.getElem?_eq_some_iff.1 hx).1
       have hc:aG.toList[i]?=some (aG.getD i undef):=by
        rw[List.getElem?_eq_getElem hlt]
        simp only[Array.length_toList]at hlt
        simp[hlt]
       exact hv _ _ _ _ (d2 i x _ hx hc)
     · rcases hb with hb | ⟨s,o,hs,hb⟩
       · exact r.fJ b hb
       · exact(r.own s b o (d3 s hs) hb).2.1
    refine Calls.mono (D7 w _ β aG (fun p hp=>⟨.inl (r.lK p hp).1,(r.lK p hp).2⟩) hpre) fun e w' hpost=>?_
    obtain⟨cs,ps,M',rfl,post⟩:=hpost
    have hkeep:∀ b,b<w.heap.size→w'.heap[b]?=w.heap[b]?:=fun b hb=>post.keep b hb fun i o hi=>by simp at hi
    refine⟨⟨_,rfl⟩,?_⟩
    show ∃ e M' β',_
    obtain ⟨M'',hM1,hM2,hM3,hM4⟩ : ∃ M'' : Nat → Prop,(∀ b,aY M β (cond fi.cfg.shares ss []) b → M'' b) ∧ (∀ b,M'' b → aY M β (cond fi.cfg.shares ss []) b ∨ (w.heap.size ≤ b ∧ b < w'.heap.size)) ∧ (∀ b,M'' b → M' b) ∧
        qA T w' M'' β (look (dN 0 iU)) ms' fi.fn.resultTypes.toList rs cs ps:=by
      cases hs:fi.cfg.shares with
      | true=>exact⟨M',fun b hb=>post.fJ b hb,fun b hb=>(post.jX b hb).imp id fun h=>⟨h,post.mlt b hb⟩,fun _ h=>h,hms _ _ _ _ _ _ _ post.res⟩
      | false =>
       obtain⟨M2,k1,k2⟩:=post.res2 hm hs
       refine⟨fun b=>aY M β [] b∨M2 b,fun _ h=>.inl h,fun b h=>h.imp id fun h=>⟨(k1 b h).2,post.mlt b (k1 b h).1⟩,fun b hb=>?_,(hms _ _ _ _ _ _ _ k2).mono fun _ h=>.inr h⟩
       rcases hb with (hb | ⟨s,o,hs,_⟩) | hb
       · exact post.fJ b (.inl hb)
       · simp at hs
       · exact(k1 b hb).1
    refine⟨{ val:=mg xs,lJ:=bs,new:=keysOf bs,wP:=cond fi.cfg.shares ss [] },M'',?_⟩
    by_cases hfz:fU (keysOf bs++cond fi.cfg.shares ss [])=true
    · have r1 := r.freeze (present st.heap (keysOf bs)) (cond fi.cfg.shares ss []) (jh hfz).2 (by
        cases fi.cfg.shares with
        | false=>simp
        | true=>exact d3)
      have r2:Rel w0 Pr M0 M'' β (st.strike (present st.heap (keysOf bs)++cond fi.cfg.shares ss [])) a w' :=
       r1.world post.size post.os post.tape post.output (fun b hb _=>hkeep b hb) (fun b n _ hb _ hr=>hr.of_block (hkeep b hb)) hM1 hM2
      obtain⟨β',r3,nP⟩:=r2.results (d:=d) hM4 hres (fun s hs=>wF hs) (fun b o hb=>by
       obtain⟨g1,g2,g3⟩:=post.own b o hb
       refine⟨fun h=>g1 (hM3 b h),g2,by have:=r.size;omega,fun s' o' hs' nP=>?_⟩
       have:=(r1.own s' b o' hs' nP).2.1
       omega) (fun j s blk hj=>by simp at hj)
      refine⟨β',hk,post.drawn,fun _=>⟨?_,fun s hs=>nP s fun hk=>?_,eU fun k b hkb=>.inl ?_⟩⟩
      · rw[hd];exact r3
      · have:=lW (jh hfz).1 s hk;omega
      · refine lW (jh hfz).1 k ?_
        have:∀ (l:List (Nat × aI)),(k,b)∈l→k∈keysOf l:=by
         intro l
         induction l with
         | nil=>intro h;simp at h
         | cons x r ih =>
          intro h
          rcases List.mem_cons.1 h with rfl | h
          · simp[keysOf]
          · simp[keysOf,ih h]
        exact this _ hkb
    · exact⟨β,hk,post.drawn,fun h=>absurd h hfz⟩
end
end Go.Skm
namespace Go.Skm
section
variable {P:Program} {T:Tab} {w0:Base} {Pr M0 M:Nat→Prop} {β:Nat→Option (Nat × Nat)} {st:St} {a:Act} {w:World} {o:Oper}
theorem Uz {ss:List Nat} (h:ss.Nodup) (s:Nat):(addN ss s).Nodup:=by
 unfold addN
 cases hm:dZ s ss with
 | true=>exact h
 | false =>
  simp only[cond_false]
  have:=dK.1 hm
  rw[List.nodup_append]
  exact⟨h,by simp,fun x hx y hy=>by simp at hy;subst hy;rintro rfl;exact this hx⟩
mutual
theorem RD:∀ (v:AV) (acc:List Nat),acc.Nodup→(AV.sites acc v).Nodup
 | .slice s _ _ _,_P8,h | .bslice s _ _,_P8,h | .ptr s _ _,_P8,h | .mref s,_P8,h=>Uz h s
 | .fn _ cs,acc,h | .agg cs,acc,h | .mG cs,acc,h=>vM cs acc h
 | .undef,_P8,h | .p _,_P8,h | .mO _ _ _ _,_P8,h | .fresh _ _ _,_P8,h | .sJ,_P8,h=>h
theorem vM:∀ (l:List AV) (acc:List Nat),acc.Nodup→(AV.rW acc l).Nodup
 | [],_P8,h=>h
 | v::r,acc,h=>vM r _ (RD v acc h)
end
theorem La {s:Nat}:∀ {l:List Nat} {i j:Nat},idxOf s l i=some j→∃ n,j=i+n∧l[n]?=some s
 | [],i,j,h=>by simp[idxOf]at h
 | x::r,i,j,h=>by
  simp only[idxOf]at h
  cases he:x==s with
  | true =>
   rw[he]at h;simp at h
   exact⟨0,h.symm,by simpa using he⟩
  | false =>
   rw[he]at h
   obtain⟨n,h1,h2⟩:=La h
   exact⟨n+1,by omega,by simpa using h2⟩
theorem Lc {h:Nat→Option aI}:∀ {ss:List Nat} {bl:List aI},BM h ss=some bl→bl.length=ss.length∧∀ (i s:Nat),ss[i]?=some s→∃ b,bl[i]?=some b∧h s=some b∧dn b=true
 | [],bl,hb=>by
  simp[BM]at hb;subst hb
  exact⟨rfl,fun i s hi=>by simp at hi⟩
 | x::r,bl,hb=>by
  simp only[BM]at hb
  split at hb
  · rename_i b bs h1 h2
    cases hp:dn b with
    | false=>rw[hp]at hb;cases hb
    | true =>
     rw[hp]at hb;simp at hb;subst hb
     obtain⟨g1,g2⟩:=Lc h2
     refine⟨by simp[g1],fun i s hi=>?_⟩
     cases i with
     | zero=>simp at hi;subst hi;exact⟨b,rfl,h1,hp⟩
     | succ i=>simp at hi;simpa using g2 i s hi
  · cases hb
theorem N9 {ss:List Nat}:∀ {args as_:List AV},Gu ss args=some as_→as_.length=args.length∧∀ (i:Nat) (v:AV),as_[i]?=some v→∃ u,args[i]?=some u∧toArg ss u=some v
 | [],as_,h=>by
  simp[Gu]at h;subst h
  exact⟨rfl,fun i v hi=>by simp at hi⟩
 | u::r,as_,h=>by
  simp only[Gu]at h
  split at h
  · rename_i x xs h1 h2
    cases h
    obtain⟨g1,g2⟩:=N9 h2
    refine⟨by simp[g1],fun i v hi=>?_⟩
    cases i with
    | zero=>simp at hi;subst hi;exact⟨u,rfl,h1⟩
    | succ i=>simp at hi;simpa using g2 i v hi
  · cases h
def A8 (β:Nat→Option (Nat × Nat)) (ss:List Nat) (x:Nat):Option (Nat × Nat):=if ah≤x then(ss[x-ah]?).bind β else none
theorem RF {ss:List Nat} (i:Nat):A8 β ss (ah+i)=(ss[i]?).bind β:=by
 simp[A8]
theorem AR.ZB {M':Nat→Prop} {β':Nat→Option (Nat × Nat)} {h h':Nat→Option aI} {s s' i off:Nat} {c:Value} {blk:aI} (hv:AR w M β h (.ptr s i off) c) (e1:h s=some blk) (e2:h' s'=some blk) (e3:β' s'=β s):AR w M' β' h' (.ptr s' i off) c:=by
 cases hv with
 | ptrB _ _ cs b o hs hb=>rw[hs]at e1;cases e1;exact .ptrB s' off cs b o e2 (e3.trans hb)
 | ptrA _ _ _ a ks xs b o hs hi hb=>rw[hs]at e1;cases e1;exact .ptrA s' i off a ks xs b o e2 hi (e3.trans hb)
 | ptrT _ _ t c0 c1 b hs hb=>rw[hs]at e1;cases e1;exact .ptrT s' off t c0 c1 b e2 (e3.trans hb)
theorem BR.GN {β':Nat→Option (Nat × Nat)} {h h':Nat→Option aI} {s s':Nat} {blk:aI} (hb:BR w M β h s blk) (hp:dn blk=true) (e:β' s'=β s):BR w M β' h' s' blk:=by
 cases hb with
 | fM=>exact .fM _ _
 | log=>exact .log _ _
 | tb=>simp[dn]at hp
 | mp=>simp[dn]at hp
 | br=>simp[dn]at hp
 | DR=>simp[dn]at hp
 | arr _ _ _ b o C e' fr g1 g2 g3 g4 g5 g6=>exact .arr _ _ _ b o C e' fr (e.trans g1) g2 g3 g4 g5 g6
 | box cs b o C e' fr g1 g2 g3 g4 g5 g6 =>
  refine .box cs b o C e' fr (e.trans g1) g2 g3 g4 g5 fun j c hc=>?_
  simp only[dn,Option.isSome_iff_exists]at hp
  obtain⟨vs,hp⟩:=hp
  have hcs:=qp hp
  subst hcs
  have hc':=g6 j c hc
  simp only[List.getElem?_map,Option.map_eq_some_iff]at hc
  obtain⟨x,_,rfl⟩:=hc
  generalize C.getD (o+j) undef=u at hc'
  cases hc' with
  | p _ _ hv=>exact .p _ _ hv
theorem Fb:∀ (cs ds ds0:List AV) (n:Nat),oU cs ds=true→(∀ (i:Nat) (d:AV),ds[i]?=some d→ds0.getD (n+i) .undef=d)→oD.oP cs ds0 n=ds
 | [],[],_,_,_,_=>rfl
 | [],_::_,_,_,h,_=>by simp[oU]at h
 | _::_,[],_,_,h,_=>by simp[oU]at h
 | c::cs,d::ds,ds0,n,h,hg=>by
  simp only[oU,Bool.and_eq_true]at h
  have h0:ds0.getD n .undef=d:=by simpa using hg 0 d rfl
  have hr:=Fb cs ds ds0 (n+1) h.2 fun i x hx=>by
   have:=hg (i+1) x (by simpa using hx)
   rwa[show n+(i+1)=n+1+i from by omega]at this
  have h1:=h.1
  unfold oD.oP
  split<;>rename_i hh<;>first | (cases hh;done) | skip
  all_goals (try (simp only[List.cons.injEq]at hh;obtain⟨rfl,rfl⟩:=hh))
  all_goals rw[hr,h0]
  all_goals (try (cases d<;>simp[Q9]at h1))
  all_goals (try (rename_i v;cases v<;>simp at h1))
  all_goals (try subst h1)
  all_goals simp[AV.pv,PV.toInt,PV.toBool,PV.toStr,PV.toList]
  all_goals exact⟨h1.1,Kd.jY _ _ h1.2⟩
theorem D8 {b0 b1:aI} (h:backOk b0 b1=true):oD b0 b1=b1:=by
 cases b0 with
 | log on ys=>rfl
 | tb t c0 c1=>rfl
 | mp t es=>rfl
 | br e xs=>rfl
 | arr a ks xs =>
  cases b1 with
  | box=>simp[backOk]at h
  | log=>simp[backOk]at h
  | tb=>simp[backOk]at h
  | mp=>simp[backOk]at h
  | br=>simp[backOk]at h
  | arr b ls ys =>
   simp only[backOk,Bool.and_eq_true,beq_iff_eq]at h
   obtain⟨rfl,h2⟩:=h
   have:=Kd.jY _ _ h2
   subst this
   rfl
 | box cs =>
  cases b1 with
  | arr=>simp[backOk]at h
  | log=>simp[backOk]at h
  | tb=>simp[backOk]at h
  | mp=>simp[backOk]at h
  | br=>simp[backOk]at h
  | box ds =>
   simp only[oD,aI.cs,aI.box.injEq]
   exact Fb cs ds ds 0 h fun i d hi=>by simp[List.getD,hi]
end
section
variable {P:Program} {T:Tab} {w0:Base} {Pr M0 M:Nat→Prop} {β:Nat→Option (Nat × Nat)} {st:St} {a:Act} {w:World} {o:Oper}
theorem Oa:∀ {ss:List Nat} {i j s:Nat},ss.Nodup→ss[i]?=some s→ss[j]?=some s→i=j
 | [],i,j,s,_,h,_=>by simp at h
 | x::r,0,0,s,_,_,_=>rfl
 | x::r,0,j+1,s,h,hi,hj=>by
  simp at hi hj;subst hi
  exact absurd (List.mem_of_getElem? hj) (List.nodup_cons.1 h).1
 | x::r,i+1,0,s,h,hi,hj=>by
  simp at hi hj;subst hj
  exact absurd (List.mem_of_getElem? hi) (List.nodup_cons.1 h).1
 | x::r,i+1,j+1,s,h,hi,hj=>by
  simp at hi hj
  rw[Oa (List.nodup_cons.1 h).2 hi hj]
theorem xk {ss:List Nat}:∀ {l:List Nat},BN ss l=true→∀ x∈l,x ∉ ss
 | [],_,x,hx=>by simp at hx
 | y::r,h,x,hx=>by
  simp only[BN,Bool.and_eq_true,Bool.not_eq_true']at h
  rcases List.mem_cons.1 hx with rfl | hx
  · exact dK.1 h.1
  · exact xk h.2 x hx
theorem Dk:∀ (l1 l2:List (Nat × aI)) (hp:Heap),cZ hp (l1++l2)=cZ (cZ hp l1) l2
 | [],_l2,_hp=>rfl
 | (s,b)::r,l2,hp=>Dk r l2 (put hp s b)
theorem Ob : ∀ {ss : List Nat} {bl iU : List aI} {hp : Heap},ss.Nodup → bl.length = ss.length → iU.length = bl.length →
    (∀ s,s ∉ ss→look (cZ hp (fV ss bl iU)) s=look hp s)∧(∀ (i s:Nat) (b0 b1:aI),ss[i]?=some s→bl[i]?=some b0→iU[i]?=some b1→look (cZ hp (fV ss bl iU)) s=some (oD b0 b1))
  | [],bl,iU,hp,_,_,_=>by
   refine⟨fun s _=>?_,fun i s b0 b1 h=>by simp at h⟩
   simp[fV,cZ]
  | x::r,[],iU,hp,_,h,_=>by simp at h
  | x::r,b::bl,[],hp,_,_,h=>by simp at h
  | x::r,b::bl,c::iU,hp,hd,h1,h2=>by
   rw[List.nodup_cons]at hd
   have ih:=Ob (ss:=r) (bl:=bl) (iU:=iU) (hp:=put hp x (oD b c)) hd.2 (by simpa using h1) (by simpa using h2)
   have e:fV (x::r) (b::bl) (c::iU)=(x,oD b c)::fV r bl iU:=rfl
   rw[e]
   refine⟨fun s hs=>?_,fun i s b0 b1 hi h3 h4=>?_⟩
   · simp only[List.mem_cons,not_or]at hs
     show look (cZ (put hp x (oD b c)) (fV r bl iU)) s=_
     rw[ih.1 s hs.2,aV,if_neg hs.1]
   · cases i with
     | zero =>
      simp at hi h3 h4;subst hi h3 h4
      show look (cZ (put hp x (oD b c)) (fV r bl iU)) x=_
      rw[ih.1 x hd.1,aV,if_pos rfl]
     | succ i=>simp at hi h3 h4;exact ih.2 i s b0 b1 hi h3 h4
theorem Fe:∀ {ss:List Nat} {bl iU:List aI} {k:Nat} {b:aI},bl.length=ss.length→iU.length=bl.length→(k,b)∈fV ss bl iU→∃ (i:Nat) (b0 b1:aI),ss[i]?=some k∧bl[i]?=some b0∧iU[i]?=some b1∧b=oD b0 b1
 | [],bl,iU,k,b,_,_,h=>by simp[fV]at h
 | x::r,[],iU,k,b,h,_,_=>by simp at h
 | x::r,c::bl,[],k,b,_,h,_=>by simp at h
 | x::r,c::bl,d::iU,k,b,h1,h2,h=>by
  have e:fV (x::r) (c::bl) (d::iU)=(x,oD c d)::fV r bl iU:=rfl
  rw[e]at h
  rcases List.mem_cons.1 h with h | h
  · cases h;exact⟨0,c,d,rfl,rfl,rfl,rfl⟩
  · obtain⟨i,b0,b1,g1,g2,g3,g4⟩:=Fe (by simpa using h1) (by simpa using h2) h
    exact⟨i+1,b0,b1,by simpa using g1,by simpa using g2,by simpa using g3,g4⟩
theorem XA (ok : bP P T) {C : aF} (hC : gX P T w0.gl C) (r : Rel w0 Pr M0 M β st a w) {h' : Nat → Option aI} (hsub : ∀ s b,h' s = some b → look st.heap s = some b) {d f : Nat} {fi : FI} {args : List AV} {aG : Array Value}
    (hd:o.dst=some d) (hf:bG T.funcs f=some fi) (hm:fi.cfg.zD=true) (hargs:kW w M β (look st.heap) args aG.toList) (he:(execOp a.eval o).run P w=(callFunc f aG).run P w) :
    dI P w0 Pr M0 β st a w o (nI T C h' o.dst f args):=by
  rw[hd]
  simp only[nI,hf,hm]
  have hnd:(AV.rW [] args).Nodup:=vM args [] List.nodup_nil
  generalize AV.rW [] args=ss at hnd
  cases hta:Gu ss args with
  | none=>exact⟨fun _ _ _ _ hk=>by simp[DT.run]at hk⟩
  | some as_ =>
   cases hab:BM h' ss with
   | none=>exact⟨fun _ _ _ _ hk=>by simp[DT.run]at hk⟩
   | some bl =>
    refine⟨fun hnd' α k res hk rd nd Q=>?_⟩
    obtain⟨⟨rs,iU⟩,hcall,hk⟩:=GL hk
    obtain⟨b1,b2⟩:=Lc hab
    obtain⟨hbody,D7⟩:=hC.plain f fi _ bl rs iU hf (fun b hb=>by
     obtain⟨i,hi⟩:=List.mem_iff_getElem?.1 hb
     have hlt:i<ss.length:=by rw[← b1];exact(List.getElem?_eq_some_iff.1 hi).1
     obtain⟨b',h1,_,h2⟩:=b2 i ss[i] (by simp)
     rw[hi]at h1;cases h1;exact h2) hcall
    obtain⟨t1,t2⟩:=N9 hta
    cases hres:pY T d ss 0 fi.cfg.rets fi.fn.resultTypes.toList rs with
    | none=>rw[hres]at hk;simp[DT.run]at hk
    | some xb =>
     obtain⟨xs,bs⟩:=xb
     rw[hres]at hk
     obtain⟨hna,hk⟩:=PO hk
     simp only[DT.run]at hk
     refine qP hnd' ?_
     rw[he,yF ok hf hbody,Oper.uponIn_enter]
     refine⟨yE rd,bW rd ?_⟩
     have ac8:∀ (i:Nat) (b0:aI),bl[i]?=some b0→∃ s,ss[i]?=some s∧look st.heap s=some b0∧dn b0=true:=by
      intro i b0 hi
      have hlt:i<ss.length:=by rw[← b1];exact(List.getElem?_eq_some_iff.1 hi).1
      obtain⟨b,g1,g2,g3⟩:=b2 i ss[i] (by simp)
      rw[g1]at hi;cases hi
      exact⟨ss[i],by simp,hsub _ _ g2,g3⟩
     have qw:∀ (i s:Nat),ss[i]?=some s→∃ b0,bl[i]?=some b0∧look st.heap s=some b0∧dn b0=true:=by
      intro i s hi
      obtain⟨b,g1,g2,g3⟩:=b2 i s hi
      exact⟨b,g1,hsub _ _ g2,g3⟩
     have place:∀ (i s:Nat),ss[i]?=some s→A8 β ss (ah+i)=β s:=by
      intro i s hi
      rw[RF,hi];rfl
     have arg1:∀ (u v:AV) (c:Value),toArg ss u=some v→AR w M β (look st.heap) u c→AR w M (A8 β ss) (look (dN 0 bl)) v c:=by
      intro u v c hu hc
      unfold toArg at hu
      split at hu
      · cases hu
        cases hc with
        | p _ _ hv=>exact .p _ _ hv
      · rename_i s z off len
        cases hi:idxOf s ss 0 with
        | none=>rw[hi]at hu;cases hu
        | some i =>
         rw[hi]at hu;simp at hu;subst hu
         obtain⟨n,hn,hs⟩:=La hi
         obtain rfl:i=n:=by omega
         obtain⟨b0,g1,g2,g3⟩:=qw i s hs
         exact hc.gy g2 (by rw[mX];exact g1) (place i s hs)
      · rename_i s idx off
        cases hi:idxOf s ss 0 with
        | none=>rw[hi]at hu;cases hu
        | some i =>
         rw[hi]at hu;simp at hu;subst hu
         obtain⟨n,hn,hs⟩:=La hi
         obtain rfl:i=n:=by omega
         obtain⟨b0,g1,g2,g3⟩:=qw i s hs
         exact hc.ZB g2 (by rw[mX];exact g1) (place i s hs)
      · cases hu
     have hpre:oH w M (A8 β ss) as_ bl aG:=by
      refine⟨?_,fun i v hi=>?_,fun i b0 hi=>?_,fun i b o hi h=>?_,fun i j b o o' hi hj h1 h2=>?_,r.fJ⟩
      · have:=hargs.1
        simp only[Array.length_toList]at this
        omega
      · obtain⟨u,g1,g2⟩:=t2 i v hi
        have hlt:i<aG.toList.length:=by rw[← hargs.1];exact(List.getElem?_eq_some_iff.1 g1).1
        have hc:aG.toList[i]?=some (aG.getD i undef):=by
         rw[List.getElem?_eq_getElem hlt]
         simp only[Array.length_toList]at hlt
         simp[hlt]
        exact arg1 u v _ g2 (hargs.2 i u _ g1 hc)
      · obtain⟨s,g1,g2,g3⟩:=ac8 i b0 hi
        exact(r.heap s b0 g2).GN g3 (place i s g1)
      · have hlt:i<ss.length:=by omega
        rw[place i ss[i] (by simp)]at h
        obtain⟨b0,g1,g2,g3⟩:=qw i ss[i] (by simp)
        have:=r.own ss[i] b o (by rw[g2];rfl) h
        exact⟨this.1,this.2.1⟩
      · have hli:i<ss.length:=by omega
        have hlj:j<ss.length:=by omega
        rw[place i ss[i] (by simp)]at h1
        rw[place j ss[j] (by simp)]at h2
        obtain⟨b0,g1,g2,g3⟩:=qw i ss[i] (by simp)
        obtain⟨b0',g1',g2',g3'⟩:=qw j ss[j] (by simp)
        have:=r.inj ss[i] ss[j] b o o' (by rw[g2];rfl) (by rw[g2'];rfl) h1 h2
        exact Oa (s:=ss[j]) hnd (by rw[← this];simp) (by simp)
     refine Calls.mono (D7 w _ _ aG r.lK hpre) fun e w' hpost=>?_
     obtain⟨cs,ps,M',rfl,post⟩:=hpost
     refine⟨⟨_,rfl⟩,?_⟩
     show ∃ e M' β',_
     refine⟨{ val:=mg xs,lJ:=fV ss bl iU++bs,new:=keysOf bs },M',?_⟩
     by_cases hfz:fU (keysOf bs++[])=true
     · have hfz':fU (keysOf bs)=true:=(jh hfz).1
       have r1:Rel w0 Pr M0 M β (st.strike (present st.heap (keysOf bs))) a w:=r.strike _ (fun b h=>h) fun b h=>.inl h
       generalize hst1:st.strike (present st.heap (keysOf bs))=st1 at r1
       have VU:∀ (i s:Nat) (b0:aI),ss[i]?=some s→bl[i]?=some b0→look st1.heap s=some b0:=by
        intro i s b0 hi hb
        obtain⟨b,g1,g2,g3⟩:=qw i s hi
        rw[hb]at g1;cases g1
        rw[← hst1,bQ,if_neg,g2]
        · show some (b0.kill _)=some b0
          congr 1
          cases b0 with
          | arr=>rfl
          | log=>rfl
          | tb=>simp[dn]at g3
          | mp=>simp[dn]at g3
          | br=>simp[dn]at g3
          | box cs =>
           simp only[dn,Option.isSome_iff_exists]at g3
           obtain⟨vs,hp⟩:=g3
           have hcs:=qp hp
           subst hcs
           simp only[aI.kill,aI.box.injEq]
           apply List.ext_getElem?
           intro n
           rw[gQ]
           cases hx:(vs.map AV.p)[n]? with
           | none=>rfl
           | some v =>
            simp only[List.getElem?_map,Option.map_eq_some_iff]at hx
            obtain⟨x,_,rfl⟩:=hx
            rfl
        · intro hm
          exact xk hna s (lu hm).1 (List.mem_of_getElem? hi)
       have hbk:=Ob (ss:=ss) (bl:=bl) (iU:=iU) (hp:=st1.heap) hnd b1 post.len
       have UA:∀ s,s∈ss→∃ (i:Nat) (b0 b1:aI),ss[i]?=some s∧bl[i]?=some b0∧iU[i]?=some b1:=by
        intro s hs
        obtain⟨i,hi⟩:=List.mem_iff_getElem?.1 hs
        obtain⟨b0,g1,_,_⟩:=qw i s hi
        have hlt:i<iU.length:=by rw[post.len];exact(List.getElem?_eq_some_iff.1 g1).1
        exact⟨i,b0,iU[i],hi,g1,by simp⟩
       have r2:Rel w0 Pr M0 M' β { st1 with heap:=cZ st1.heap (fV ss bl iU) } a w':=by
        refine r1.moved post.size post.os post.tape post.output (fun b hb hm=>post.keep b hb fun i o hi h=>?_) (fun b n hb _ hr=>post.room b n hb hr) post.fJ (fun b h=>?_) (fun s hs=>?_) (fun s blk hs=>?_)
        · have hlt:i<ss.length:=by omega
          rw[place i ss[i] (by simp)]at h
          obtain⟨b0,g1,g2,g3⟩:=qw i ss[i] (by simp)
          obtain⟨o1,o2,o3⟩:=r.own ss[i] b o (by rw[g2];rfl) h
          rcases hm with hm | ⟨hm1,hm2⟩
          · exact o1 hm
          · rcases o3.1 with o3 | o3
            · omega
            · exact hm2 o3
        · rcases post.jX b h with h1 | h1
          · exact .inl h1
          · exact .inr ⟨h1,post.mlt b h⟩
        · rw[hbk.1 s]
          · exact hs
          · intro hm
            obtain⟨i,b0,b1,g1,g2,g3⟩:=UA s hm
            rw[VU i s b0 g1 g2]at hs;cases hs
        · by_cases hm:s∈ss
          · obtain⟨i,b0,b1,g1,g2,g3⟩:=UA s hm
            have:=VU i s b0 g1 g2
            rw[this]at hs;cases hs
            obtain⟨k1,k2,k3,k4⟩:=post.blk i blk b1 g2 g3
            refine⟨b1,by rw[hbk.2 i s blk b1 g1 g2 g3,D8 k3],.inr ⟨k2,k1.GN k4 (place i s g1).symm⟩⟩
          · refine⟨blk,by rw[hbk.1 s hm];exact hs,.inl ⟨rfl,fun b o h=>?_⟩⟩
            have hl:(look st1.heap s).isSome=true:=by rw[hs];rfl
            refine post.keep b (r1.own s b o hl h).2.1 fun i o' hi h'=>?_
            have hlt:i<ss.length:=by omega
            rw[place i ss[i] (by simp)]at h'
            obtain⟨b0,g1,g2,g3⟩:=qw i ss[i] (by simp)
            have:=r1.inj s ss[i] b o o' hl (by rw[VU i ss[i] b0 (by simp) g1];rfl) h h'
            exact hm (by rw[this];simp)
       obtain⟨β',r3,nP⟩:=r2.results (d:=d) post.res hres (fun s hs=>by
        show look (cZ st1.heap (fV ss bl iU)) s=none
        rw[hbk.1 s (xk hna s hs),← hst1]
        exact by simpa using wF (st:=st) (fz:=[]) hs) (fun b o hb=>by
        obtain⟨g1,g2,g3⟩:=post.own b o hb
        refine⟨g1,g2,by have:=r.size;omega,fun s' o' hs' nP=>?_⟩
        have aa2:(look st1.heap s').isSome=true:=by
         by_cases hm:s'∈ss
         · obtain⟨i,b0,b1,k1,k2,k3⟩:=UA s' hm
           rw[VU i s' b0 k1 k2];rfl
         · have h3:(look (cZ st1.heap (fV ss bl iU)) s').isSome=true:=hs'
           rw[hbk.1 s' hm]at h3;exact h3
        have:=(r1.own s' b o' aa2 nP).2.1
        omega) (fun j s blk hj hb=>by
        rw[mX]at hb
        obtain⟨b0,g1,g2,g3⟩:=qw j s hj
        refine⟨?_,(place j s hj).symm⟩
        show look (cZ st1.heap (fV ss bl iU)) s=_
        rw[hbk.2 j s b0 blk hj g1 hb,D8 (post.blk j b0 blk g1 hb).2.2.1])
       refine⟨β',hk,post.drawn,fun _=>⟨?_,fun s hs=>nP s fun hk=>?_,eU fun k b hkb=>?_⟩⟩
       · rw[hd]
         have e:st.apply (some d) { val:=mg xs,lJ:=fV ss bl iU++bs,new:=keysOf bs }={ env:=Skm.setEnv st1.env (some d) (mg xs),heap:=cZ (cZ st1.heap (fV ss bl iU)) bs }:=by
          rw[← Dk,← hst1]
          simp[St.apply,St.kill]
         rw[e];exact r3
       · have:=lW hfz' s hk;omega
       · rcases List.mem_append.1 hkb with h | h
         · obtain⟨i,b0,b1',k1,k2,k3,rfl⟩:=Fe b1 post.len h
           obtain⟨b,g1,g2,g3⟩:=qw i k k1
           rw[k2]at g1;cases g1
           obtain⟨q1,q2,q3,q4⟩:=post.blk i b0 b1' k2 k3
           exact .inr ⟨b0,g2,by rw[D8 q3];exact q2⟩
         · refine .inl (lW hfz' k ?_)
           have:∀ (l:List (Nat × aI)),(k,b)∈l→k∈keysOf l:=by
            intro l
            induction l with
            | nil=>intro h;simp at h
            | cons x r ih =>
             intro h
             rcases List.mem_cons.1 h with rfl | h
             · simp[keysOf]
             · simp[keysOf,ih h]
           exact this _ h
     · exact⟨β,hk,post.drawn,fun h=>absurd h hfz⟩
end
end Go.Skm
namespace Go.Skm
section
variable {P:Program} {T:Tab} {w0:Base} {Pr M0 M:Nat→Prop} {β:Nat→Option (Nat × Nat)} {st:St} {a:Act} {w:World} {o:Oper}
theorem zi {x:PV} (h:aA false [.int .u8] x=true):∃ n,x=.int .u8 n:=by
 cases x<;>simp[aA,kindOk]at h
 exact⟨_,by rw[← h]⟩
theorem XB {e:TypeId} {v:Value} {q:Option (Nat × Nat)} {cs:List Value} (h:yB e w v q cs):∃ base cap,v=.slice base cs.length cap:=by
 rcases h with ⟨_,rfl,rfl⟩ | ⟨b,cap,C,fr,_,rfl,_⟩
 · exact⟨none,0,rfl⟩
 · exact⟨_,cap,rfl⟩
theorem row_of (r : Rel w0 Pr M0 M β st a w) {g : Nat} {e : TypeId} {xs : List PV} {v : Value} (hg : look st.heap g = some (.br e xs)) (hv : AR w M β (look st.heap) (.mref g) v) :
    ∃ q,yB e w v q (xs.map iE)∧(∀ b o,q=some (b,o)→β g=some (b,o))∧∀ x∈xs,aA false [.int .u8] x=true:=by
  have hxs:∀ x∈xs,aA false [.int .u8] x=true:=by
   cases r.heap g _ hg with
   | DR=>simp
   | br _ _ b C fr g1 g2 g3 g4 g5 g6=>exact g5
  cases hv with
  | Kr _ t es b o p1=>rw[hg]at p1;cases p1
  | Kt _ e' xs' b cap p1 p2 p3 p4 p5 =>
   rw[hg]at p1;cases p1
   obtain⟨C,e',fr,k1,k2⟩:=p5.ajv
   cases r.heap g _ hg with
   | DR=>simp at p4
   | br _ _ b' C2 fr2 g1 g2 g3 g4 g5 g6 =>
    rw[p2]at g1;cases g1
    rw[k1]at g2;cases g2
    refine⟨some (b,0),.inr ⟨b,cap,C,fr,rfl,by simp,by simpa using p3,by simpa using p4,k1,k2,by simpa using g4,fun j c hj=>?_⟩,fun _ _ h=>by cases h;exact p2,hxs⟩
    rw[List.getElem?_map]at hj
    cases hy:xs[j]? with
    | none=>rw[hy]at hj;simp at hj
    | some y =>
     rw[hy]at hj
     simp only[Option.map_some,Option.some.injEq]at hj
     subst hj
     exact g6 j y hy
  | AU _ e' p1 =>
   rw[hg]at p1;cases p1
   exact⟨none,.inl ⟨rfl,rfl,rfl⟩,fun b o h=>(by cases h),hxs⟩
theorem XC {xs:List PV} (h:∀ x∈xs,aA false [.int .u8] x=true):∀ c∈xs.map iE,∃ n,c=.int .u8 n:=by
 intro c hc
 obtain⟨x,hx,rfl⟩:=List.mem_map.1 hc
 obtain⟨n,rfl⟩:=zi (h x hx)
 exact⟨n,rfl⟩
theorem RG {e : TypeId} {w' : World} {v' : Value} {q' : Option (Nat × Nat)} {ys : List PV} (hr : yB e w' v' q' (ys.map iE)) (hys : ∀ x ∈ ys,aA false [.int .u8] x = true) {β' : Nat → Option (Nat × Nat)} {h' : Nat → Option aI} {x : Nat} (nP : β' x = q') (hh : h' x = some (.br e ys)) :
    BR w' M β' h' x (.br e ys)∧AR w' M β' h' (.mref x) v':=by
  rcases hr with ⟨rfl,h2,rfl⟩ | ⟨b,cap,C,fr,rfl,rfl,h3,h4,h5,h6,h7,h8⟩
  · have hy:ys=[]:=by simpa using h2
    subst hy
    exact⟨.DR _,.AU x e hh⟩
  · simp only[List.length_map]at h3 h4 h7 ⊢
    refine⟨.br e ys b C fr nP h5 (by omega) h7 hys fun i y hy=>h8 i _ (by rw[List.getElem?_map,hy];rfl),.Kt x e ys b cap hh nP h3 h4 (Room.mkC h5 h6)⟩
theorem Rel.built (r : Rel w0 Pr M0 M β st a w) {s x b : Nat} {t : TypeId} {c0 c1 : AV} (hs : look st.heap s = some (.tb t c0 c1)) (hx : look st.heap x = none) (hxs : x ≠ s) (nP : β s = some (b,0))
    (hs1:s<ah) (amy:x<ah) {q:Option (Nat × Nat)} (hq:∀ g o,q=some (g,o)→¬ M g∧g<w.heap.size∧((w0.heap.size≤g∨Pr g)∧(w0.n0≤g∨ah≤x))∧∀ s' o',(look st.heap s').isSome=true→β s'≠some (g,o'))
    {fr:Nat × Nat} {C:Array Value} (hw:w.heap[b]?=some (.cells C t fr)) (hn:C.size=2) (ho:Open #[Value.pointer (some ⟨b,0,none⟩),undef] fr) {w':World} {ys:List PV} (hys:∀ y∈ys,aA false [.int .u8] y=true) {e:TypeId} (hp:PN e w t b q (ys.map iE) fr w')
    {d:Option Nat} {v:AV} {c:Value} (hv:∀ w' h' β',AR w' M β' h' v c) :
    ∃ q',Rel w0 Pr M0 M (fun y=>if y=x then q' else β y) { env:=Skm.setEnv st.env d v,heap:=put (put st.heap x (.br e ys)) s (.tb t (.ptr s 0 0) (.mref x)) } (a.put d c) w':=by
  obtain⟨v',q',p1,p2,p3⟩:=hp.put
  have his:(look st.heap s).isSome=true:=by rw[hs];rfl
  obtain⟨o1,o2,o3⟩:=r.own s b 0 his nP
  have hq1:∀ k,(M k∨(k<w0.heap.size∧¬ Pr k))→k<w.heap.size→w'.heap[k]?=w.heap[k]?:=by
   intro k hk hkl
   refine hp.keep k hkl (fun e=>?_) fun o e=>?_
   · subst e
     rcases hk with h | ⟨h1,h2⟩
     · exact o1 h
     · rcases o3.1 with h | h
       · omega
       · exact h2 h
   · obtain⟨g1,g2,g3,g4⟩:=hq k o e
     rcases hk with h | ⟨h1,h2⟩
     · exact g1 h
     · rcases g3.1 with h | h
       · omega
       · exact h2 h
  have hopen:∀ u,Open #[Value.pointer (some ⟨b,0,none⟩),u] fr:=fun u=>ho.size rfl
  have UC:∀ y,look (put st.heap s (.tb t (.ptr s 0 0) .undef)) y=if y=s then some (.tb t (.ptr s 0 0) .undef) else look st.heap y:=fun y=>aV _ _ _ _
  have hroom:∀ k n,k<w.heap.size→((∃ s' o',(look st.heap s').isSome=true∧β s'=some (k,o'))∨(k<w0.n0∧Pr k))→Room w k n→Room w' k n:=by
   intro k n hk hc hr
   by_cases e:k=b
   · subst e
     obtain⟨C1,e1,Rh,h1,h2,h3⟩:=hr
     rw[hw]at h1;cases h1
     exact⟨_,t,fr,p1,by simp;omega,fun _=>hopen _⟩
   · refine hr.of_block (hp.keep k hk e fun o' e'=>?_)
     obtain⟨g1,g2,g3,g4⟩:=hq k o' e'
     rcases hc with ⟨s',o'',h1,h2⟩ | ⟨h1,h2⟩
     · exact g4 s' o'' h1 h2
     · rcases g3.2 with h | h<;>omega
  have r1:Rel w0 Pr M0 M β { st with heap:=put st.heap s (.tb t (.ptr s 0 0) .undef) } a w':=by
   refine r.moved hp.size hp.os hp.tape hp.output (fun k hk h=>hq1 k h hk) hroom (fun _ h=>h) (fun _ h=>.inl h) (fun y hy=>?_) (fun y blk hy=>?_)
   · rw[UC]
     by_cases e:y=s
     · subst e;rw[hs]at hy;cases hy
     · rw[if_neg e];exact hy
   · rw[UC]
     by_cases e:y=s
     · subst e
       rw[hs]at hy;cases hy
       refine⟨.tb t (.ptr y 0 0) .undef,if_pos rfl,.inr ⟨rfl,.tb t _ _ b #[.pointer (some ⟨b,0,none⟩),v'] fr nP p1 rfl (hopen _) rfl rfl ?_ (.undef _)⟩⟩
       exact .ptrT y 0 t (.ptr y 0 0) .undef b (by rw[UC,if_pos rfl]) nP
     · refine⟨blk,by rw[if_neg e];exact hy,.inl ⟨rfl,fun k o' hk=>?_⟩⟩
       have hiy:(look st.heap y).isSome=true:=by rw[hy];rfl
       refine hp.keep k (r.own y k o' hiy hk).2.1 (fun e2=>?_) fun o2 e2=>?_
       · subst e2;exact e (r.inj y s k o' 0 hiy his hk nP)
       · exact(hq k o2 e2).2.2.2 y o' hiy hk
  have hx1:look (put st.heap s (.tb t (.ptr s 0 0) .undef)) x=none:=by rw[UC,if_neg hxs];exact hx
  obtain⟨b1,b2⟩:=RG (M:=M) p2 hys (β':=fun y=>if y=x then q' else β y) (h':=fun y=>if y=x then some (.br e ys) else look (put st.heap s (.tb t (.ptr s 0 0) .undef)) y) (x:=x) (by simp) (by simp)
  have r2:=r1.lay (s:=x) (blk:=.br e ys) hx1 (p:=q') (fun g og eg=>by
   obtain⟨n1,n2⟩:=p3 g og eg
   have hlive:∀ (s':Nat),(look (put st.heap s (.tb t (.ptr s 0 0) .undef)) s').isSome=true→(look st.heap s').isSome=true:=fun s' h=>by
    rw[UC]at h
    by_cases e:s'=s
    · subst e;exact his
    · rw[if_neg e]at h;exact h
   rcases n2 with ⟨o',e'⟩ | hnew
   · obtain⟨g1,g2,g3,g4⟩:=hq g o' e'
     exact⟨g1,Nat.lt_of_lt_of_le g2 hp.size,g3,fun s' o'' hs'=>g4 s' o'' (hlive s' hs')⟩
   · refine⟨fun hM=>?_,?_,⟨.inl (Nat.le_trans r.size hnew),.inl (Nat.le_trans (Nat.le_trans w0.le' r.size) hnew)⟩,fun s' o'' hs' ac9=>?_⟩
     · have:=r.fJ _ hM;omega
     · rcases p2 with ⟨rfl,_⟩ | ⟨b',cap,C',fr',rfl,_,_,_,h4,_⟩
       · cases eg
       · cases eg;exact(Array.getElem?_eq_some_iff.1 h4).1
     · have:=(r.own s' g o'' (hlive s' hs') ac9).2.1
       omega) b1
  refine⟨q',?_⟩
  have hlk2:∀ y,look (put (put st.heap s (.tb t (.ptr s 0 0) .undef)) x (.br e ys)) y=if y=x then some (.br e ys) else look (put st.heap s (.tb t (.ptr s 0 0) .undef)) y:=fun y=>aV _ _ _ _
  have aa4:∀ y,look (put (put st.heap x (.br e ys)) s (.tb t (.ptr s 0 0) (.mref x))) y=if y=s then some (.tb t (.ptr s 0 0) (.mref x)) else if y=x then some (.br e ys) else look st.heap y:=fun y=>by rw[aV,aV]
  have r3:Rel w0 Pr M0 M (fun y=>if y=x then q' else β y) { st with heap:=put (put st.heap x (.br e ys)) s (.tb t (.ptr s 0 0) (.mref x)) } a w':=by
   refine r2.moved (hp':=put (put st.heap x (.br e ys)) s (.tb t (.ptr s 0 0) (.mref x))) (Nat.le_refl _) rfl rfl rfl (fun _ _ _=>rfl) (fun _ _ _ _ h=>h) (fun _ h=>h) (fun _ h=>.inl h) (fun y hy=>?_) (fun y blk hy=>?_)
   · have hy:look (put (put st.heap s (.tb t (.ptr s 0 0) .undef)) x (.br e ys)) y=none:=hy
     rw[hlk2]at hy
     rw[aa4]
     by_cases e1:y=x
     · rw[if_pos e1]at hy;cases hy
     · rw[if_neg e1,UC]at hy
       by_cases e2:y=s
       · rw[if_pos e2]at hy;cases hy
       · rw[if_neg e2]at hy
         rw[if_neg e2,if_neg e1];exact hy
   · have hy:look (put (put st.heap s (.tb t (.ptr s 0 0) .undef)) x (.br e ys)) y=some blk:=hy
     rw[hlk2]at hy
     rw[aa4]
     by_cases e1:y=x
     · rw[if_pos e1]at hy;cases hy
       have:¬ y=s:=by rw[e1];exact hxs
       exact⟨_,by rw[if_neg this,if_pos e1],.inl ⟨rfl,fun _ _ _=>rfl⟩⟩
     · rw[if_neg e1,UC]at hy
       by_cases e2:y=s
       · rw[if_pos e2]at hy;cases hy
         subst e2
         refine⟨.tb t (.ptr y 0 0) (.mref x),by rw[if_pos rfl],.inr ⟨rfl,.tb t _ _ b #[.pointer (some ⟨b,0,none⟩),v'] fr (by rw[if_neg e1];exact nP) p1 rfl (hopen _) rfl rfl ?_ ?_⟩⟩
         · exact .ptrT y 0 t _ _ b (by rw[aa4,if_pos rfl]) (by rw[if_neg e1];exact nP)
         · exact(RG (M:=M) p2 hys (β':=fun y=>if y=x then q' else β y) (h':=look (put (put st.heap x (.br e ys)) y (.tb t (.ptr y 0 0) (.mref x)))) (x:=x) (by simp) (by rw[aa4,if_neg hxs,if_pos rfl])).2
       · rw[if_neg e2]at hy
         exact⟨blk,by rw[if_neg e2,if_neg e1];exact hy,.inl ⟨rfl,fun _ _ _=>rfl⟩⟩
  exact r3.setEnv d (hv _ _ _)
theorem Ci {x:Nat} {l:List Nat} (h:dZ x l=true):x∈l:=jP.1 h
theorem nZ {α:Type} {c:Bool} {D:DT} {k:Eff→Option α} {r:α} (h:(chk c D).run k=some r):c=true∧D.run k=some r:=by
 cases c with
 | true=>exact⟨rfl,h⟩
 | false=>simp[chk,DT.run]at h
theorem P9 (r : Rel w0 Pr M0 M β st a w) {s : Nat} {t : TypeId} {c0 c1 : AV} (hs : look st.heap s = some (.tb t c0 c1)) {c : Value} (hc : AR w M β (look st.heap) (.ptr s 0 0) c) :
    ∃ b C fr,β s=some (b,0)∧c=.pointer (some ⟨b,0,none⟩)∧w.heap[b]?=some (.cells C t fr)∧C.size=2∧Open C fr∧AR w M β (look st.heap) c0 (C.getD 0 undef)∧AR w M β (look st.heap) c1 (C.getD 1 undef):=by
  cases hc with
  | ptrB _ _ cs b o p1 p2=>rw[hs]at p1;cases p1
  | ptrA _ _ _ a ks xs b o p1 p2 p3=>rw[hs]at p1;cases p1
  | ptrT _ _ t' d0 d1 b p1 p2 =>
   cases r.heap s _ hs with
   | tb _ _ _ b' C fr g1 g2 g3 g4 g5 g6 g7 g8 =>
    rw[p2]at g1;cases g1
    exact⟨b,C,fr,p2,rfl,g2,g3,g4,g7,g8⟩
theorem Ld {s b:Nat} {c0:AV} {c:Value} {t:TypeId} {d0 d1:AV} {h:Nat→Option aI} (hs:h s=some (.tb t d0 d1)) (nP:β s=some (b,0)) (ho:ER s c0=true) (hc:AR w M β h c0 c):c=.pointer none∨c=.pointer (some ⟨b,0,none⟩):=by
 unfold ER at ho
 split at ho
 · cases hc with
   | p _ _ hv=>cases hv;exact .inl rfl
 · next x =>
   have e:x=s:=by simpa using ho
   subst e
   cases hc with
   | ptrB _ _ cs b o p1 p2=>rw[hs]at p1;cases p1
   | ptrA _ _ _ a ks xs b o p1 p2 p3=>rw[hs]at p1;cases p1
   | ptrT _ _ t' d0 d1 b' p1 p2=>rw[nP]at p2;cases p2;exact .inr rfl
 · cases ho
theorem XD (st : St) (d : Option Nat) (v : AV) {g s : Nat} {b1 b2 : aI} (x : Nat) :
    look (st.apply d { val:=v,lJ:=[(g,b1),(s,b2)],cut:=[g] }).heap x=look (put (put (st.strike [g]).heap g b1) s b2) x:=by
  show look (put (put (fD [g] st.heap) g b1) s b2) x=_
  rw[aV,aV,aV,aV]
  by_cases e1:x=s
  · rw[if_pos e1,if_pos e1]
  · rw[if_neg e1,if_neg e1]
    by_cases e2:x=g
    · rw[if_pos e2,if_pos e2]
    · rw[if_neg e2,if_neg e2,fA,bQ,if_neg (by simpa using e2)]
theorem Le (x:ByteArray):(yL x).map iE=zJ x.data.toList:=by
 simp[yL,zJ,iE,List.map_map,Function.comp_def]
theorem Fg (x:ByteArray):∀ y∈yL x,aA false [.int .u8] y=true:=by
 intro y hy
 obtain⟨z,_,rfl⟩:=List.mem_map.1 hy
 rfl
theorem Ba (_r:Rel w0 Pr M0 M β st a w) {ss:List Nat} {s:Nat} {t:TypeId} {c0 c1:AV} (hs:look st.heap s=some (.tb t c0 c1)) (hn:s ∉ ss):∃ d0 d1,look (st.strike ss).heap s=some (.tb t d0 d1):=by
 rw[bQ,if_neg hn,hs]
 exact⟨_,_,rfl⟩
theorem Fh (r : Rel w0 Pr M0 M β st a w) {h' : Nat → Option aI} (hsub : ∀ s b,h' s = some b → look st.heap s = some b) {d s m b : Nat} {t el : TypeId} {c0 c1 : AV} {ys : List PV} {val : AV} {rv : Value} {C : Array Value} {fr : Nat × Nat}
    (hs:look st.heap s=some (.tb t c0 c1)) (nP:β s=some (b,0)) (hw:w.heap[b]?=some (.cells C t fr)) (hn:C.size=2) (hop:Open C fr) (h0:C.getD 0 undef=.pointer none∨C.getD 0 undef=.pointer (some ⟨b,0,none⟩)) (h1:AR w M β (look st.heap) c1 (C.getD 1 undef))
    (hs1:s<ah) (hys:∀ y∈ys,aA false [.int .u8] y=true) (_hm:ys.length=m) (hval:∀ w' h' β',AR w' M β' h' val rv) (_amz:∀ ss,AV.refers ss val=false) {α:Type} {k:Eff→Option α} {res:α} (hk:(ES h' d s t el c1 m ys val).run k=some res) :
    ∃ q cs,NU el w t b q cs C fr∧cs.length+m≤2147483648∧∀ w',PN el w t b q (cs++ys.map iE) fr w'→∃ e M' β',k e=some res∧gZ w0.gl w.drawn w'.drawn∧(fU (e.new++e.wP)=true →
     Rel w0 Pr M0 M' β' (st.apply (some d) e) (a.put (some d) rv) w'∧(∀ s,ah≤s→β' s=β s)∧iM st.heap (st.apply (some d) e).heap):=by
  have his:(look st.heap s).isSome=true:=by rw[hs];rfl
  have hopen:Open #[Value.pointer (some ⟨b,0,none⟩),undef] fr:=hop.size (by simp[hn])
  unfold ES at hk
  split at hk
  · obtain⟨g1,hk⟩:=nZ hk
    obtain⟨g2,hk⟩:=nZ hk
    have hds:d≠s:=by simpa using g1
    have g2:m≤2147483648:=by simpa using g2
    have hC1:C.getD 1 undef=.slice none 0 0:=by
     generalize C.getD 1 undef=u at h1
     cases h1 with
     | p _ _ hv=>cases hv;rfl
    refine⟨none,[],⟨hw,hn,hop,h0,.inl ⟨rfl,rfl,hC1⟩,by simp,by simp⟩,by simpa using g2,fun w' hp=>?_⟩
    refine⟨{ val:=val,lJ:=[(d,.br el ys),(s,.tb t (.ptr s 0 0) (.mref d))],new:=[d] },M,?_⟩
    by_cases hf:fU ([d]++[])=true
    · have r1:=r.strike (M':=M) (present st.heap [d]++[]) (fun _ h=>h) (fun _ h=>.inl h)
      have hns:s ∉ present st.heap [d]++[]:=by
       simp only[List.append_nil]
       intro h
       have:=(lu h).1
       simp at this
       exact hds this.symm
      obtain⟨d0,d1,hs'⟩:=Ba r hs hns
      have hd0:look (st.strike (present st.heap [d]++[])).heap d=none:=wF (by simp)
      obtain⟨q',r2⟩:=r1.built (d:=some d) (v:=val) (c:=rv) hs' hd0 hds nP hs1 (lW hf d (by simp)) (q:=none) (fun g o h=>by cases h) hw hn hopen hys (by simpa using hp) hval
      refine⟨fun x=>if x=d then q' else β x,hk,fun _=>hp.drawn,fun _=>⟨?_,fun x hx=>?_,eU fun y blk hy=>?_⟩⟩
      · rw[Dj]
        exact r2
      · have hd':d<ah:=lW hf d (by simp)
        exact if_neg (by omega)
      · simp only[List.mem_cons,Prod.mk.injEq,List.not_mem_nil,or_false]at hy
        rcases hy with ⟨rfl,rfl⟩ | ⟨rfl,rfl⟩
        · exact .inl (lW hf y (by simp))
        · exact .inl hs1
    · exact⟨β,hk,fun _=>hp.drawn,fun h=>absurd h hf⟩
  · next g =>
    split at hk
    · next ef xs hg0 =>
      have hg:=hsub _ _ hg0
      obtain⟨g1,hk2⟩:=nZ hk
      obtain⟨g2,hk3⟩:=nZ hk2
      clear hk hk2
      simp only[Bool.and_eq_true]at g1
      obtain⟨hks,hgl,hgs⟩:=g1
      have hks:ef=el:=by simpa using hks
      subst hks
      have hgl:g<100000:=(Nat.blt_eq▸hgl:_)
      have hgs:g≠s:=by simpa using hgs
      have g2:xs.length+m≤2147483648:=by simpa using g2
      have hig:(look st.heap g).isSome=true:=by rw[hg];rfl
      obtain⟨q,e1,e2,hsubs⟩:=row_of r hg h1
      refine⟨q,_,⟨hw,hn,hop,h0,e1,XC hsubs,fun o h=>?_⟩,by simp only[List.length_map];exact g2,fun w' hp=>?_⟩
      · exact hgs (r.inj g s b o 0 hig his (e2 b o h) nP)
      · have r1:=r.strike (M':=M) [g] (fun _ h=>h) (fun _ h=>.inl h)
        obtain⟨d0,d1,hs'⟩:=Ba r hs (ss:=[g]) (by simpa using Ne.symm hgs)
        have hg':look (st.strike [g]).heap g=none:=by rw[bQ,if_pos (by simp)]
        have hq:∀ x o,q=some (x,o)→¬ M x∧x<w.heap.size∧((w0.heap.size≤x∨Pr x)∧(w0.n0≤x∨ah≤g))∧∀ s' o',(look (st.strike [g]).heap s').isSome=true→β s'≠some (x,o'):=by
         intro x o h
         have ho':=e2 x o h
         obtain⟨k1,k2,k3⟩:=r.own g x o hig ho'
         refine⟨k1,k2,k3,fun s' o'' hs' ac9=>?_⟩
         rw[bQ]at hs'
         by_cases hm:s'∈[g]
         · rw[if_pos hm]at hs';cases hs'
         · rw[if_neg hm]at hs'
           have:=r.inj s' g x o'' o (by simpa using hs') hig ac9 ho'
           exact hm (by simp[this])
        obtain⟨q',r2⟩:=r1.built (d:=some d) (v:=val) (c:=rv) hs' hg' hgs nP hs1 hgl hq hw hn hopen (ys:=xs++ys) (by
         intro y hy
         rcases List.mem_append.1 hy with h | h
         · exact hsubs y h
         · exact hys y h) (by simpa using hp) hval
        refine⟨{ val:=val,lJ:=[(g,.br ef (xs++ys)),(s,.tb t (.ptr s 0 0) (.mref g))],cut:=[g] },M,fun x=>if x=g then q' else β x,hk3,fun _=>hp.drawn,fun _=>⟨?_,fun x hx=>?_,eU fun y blk hy=>?_⟩⟩
        · exact Rel.congr r2 (hp:=(st.apply (some d) { val:=val,lJ:=[(g,.br ef (xs++ys)),(s,.tb t (.ptr s 0 0) (.mref g))],cut:=[g] }).heap) fun x=>XD st (some d) val x
        · have hx:100000≤x:=hx
          exact if_neg (by omega)
        · simp only[List.mem_cons,Prod.mk.injEq,List.not_mem_nil,or_false]at hy
          rcases hy with ⟨rfl,rfl⟩ | ⟨rfl,rfl⟩
          · exact .inl hgl
          · exact .inl hs1
    · simp[DT.run]at hk
  · simp[DT.run]at hk
theorem RH {xs:List PV} (h:∀ x∈xs,x.isByte=true):xs.map iE=zJ (bytesOf xs).data.toList:=by
 unfold zJ bytesOf
 simp only[List.map_map]
 refine List.map_congr_left fun x hx=>?_
 have:=h x hx
 unfold PV.isByte at this
 split at this
 · next n =>
   simp only[Bool.and_eq_true,decide_eq_true_eq]at this
   have e:(UInt8.ofNat n.toNat).toNat=n.toNat:=by
    rw[UInt8.toNat_ofNat']
    omega
   simp only[iE,Function.comp_apply,PV.toInt,e]
   rw[Int.toNat_of_nonneg this.1]
 · cases this
theorem ZC (ok : bP P T) {C : aF} (r : Rel w0 Pr M0 M β st a w) {h' : Nat → Option aI} (hsub : ∀ s b,h' s = some b → look st.heap s = some b) {f : Nat} {args : List AV} {aG : Array Value} (hp : (iZ T f).zT.is = true)
    (hargs:kW w M β (look st.heap) args aG.toList) (he:(execOp a.eval o).run P w=(callFunc f aG).run P w):dI P w0 Pr M0 β st a w o (cond true (J4 (iZ T f).zT (iZ T f).Gi (iZ T f).JR h' o.dst args) (nI T C h' o.dst f args)):=by
  simp only[cond_true]
  obtain⟨fi,hf,ajC⟩:∃ fi,bG T.funcs f=some fi∧iZ T f=fi.cfg:=by
   unfold iZ at hp ⊢
   cases hf:bG T.funcs f with
   | none=>rw[hf]at hp;cases hp
   | some fi=>exact⟨fi,rfl,rfl⟩
  rw[ajC]at hp ⊢
  obtain⟨hbody,hC⟩:=ok.aeF f fi hf hp
  refine⟨fun hnd α k res hk rd n Q=>?_⟩
  have call : ∀ (R : Ending → World → Prop),Calls P f aG w R → (∀ e w',R e w' → ∃ rv,e = .returned rv ∧ ((∃ c,a.put o.dst rv = a.put o.dst c) ∧ ∃ e M' β',k e = some res ∧ gZ w0.gl w.drawn w'.drawn ∧ (fU (e.new ++ e.wP) = true →
      Rel w0 Pr M0 M' β' (st.apply o.dst e) (a.put o.dst rv) w'∧(∀ s,ah≤s→β' s=β s)∧iM st.heap (st.apply o.dst e).heap))) →
      Oper.wpIn (FW rd) n P o a w (fun a' w'=>(∃ c,a'=a.put o.dst c)∧∃ e M' β',k e=some res∧gZ w0.gl w.drawn w'.drawn∧(fU (e.new++e.wP)=true →
      Rel w0 Pr M0 M' β' (st.apply o.dst e) a' w'∧(∀ s,ah≤s→β' s=β s)∧iM st.heap (st.apply o.dst e).heap)) Q:=by
    intro R D7 hR
    refine qP hnd ?_
    rw[he,yF ok hf hbody,Oper.uponIn_enter]
    refine⟨yE rd,bW rd ?_⟩
    refine Calls.mono D7 fun e w' h=>?_
    obtain⟨rv,rfl,h1,h2⟩:=hR e w' h
    exact⟨h1,h2⟩
  unfold J4 at hk
  split at hk
  · next d s x hd hpr =>
    split at hk
    · next t c0 c1 hs0 =>
      have hs:=hsub _ _ hs0
      obtain⟨g1,hk2⟩:=nZ hk
      simp only[Bool.and_eq_true]at g1
      obtain⟨gt,ga,gl⟩:=g1
      have gl:s<ah:=(Nat.blt_eq▸gl:_)
      obtain⟨ca,cb,hca⟩:∃ ca cb,aG=#[ca,cb]:=by
       have:=hargs.1
       simp only[List.length_cons,List.length_nil,Array.length_toList]at this
       exact⟨aG[0],aG[1],by
        apply Array.ext
        · simp;omega
        · intro i h1 h2
          have:i=0∨i=1:=by simp at h2;omega
          rcases this with rfl | rfl<;>rfl⟩
      subst hca
      have ha:=hargs.2 0 _ ca rfl rfl
      have hb:=hargs.2 1 _ cb rfl rfl
      have hcb:cb=.string x:=by
       cases hb with
       | p _ _ hv=>cases hv;rfl
      subst hcb
      obtain⟨b,C',fr,q1,rfl,q2,q3,q4,q5,q6⟩:=P9 r hs ha
      obtain⟨q,cs,k1,k2,k3⟩:=Fh r hsub (rv:=.tuple #[.int .i64 x.size,.nilIface]) hs q1 q2 q3 q4 (Ld hs q1 ga q5) q6 gl (Fg x) (by simp[yL]) (fun w' h' β'=>.mG _ _ rfl fun i c hi=>by
       match i,hi with
       | 0,hi=>cases hi;exact .p _ _ (.int _ _)
       | 1,hi=>cases hi;exact .p _ _ .oO
       | i+2,hi=>simp at hi) (fun ss=>by simp[AV.refers,AV.fK]) hk2
      rw[hpr]at hC
      refine call _ (hC t (Ci gt) w b q cs C' fr x k1 k2) fun e w' hR=>?_
      obtain⟨rfl,hput⟩:=hR
      rw[← Le]at hput
      obtain⟨e,M',β',z1,z2,z3⟩:=k3 w' hput
      rw[hd]
      exact⟨_,rfl,⟨_,rfl⟩,e,M',β',z1,z2,z3⟩
    · simp[DT.run]at hk
  · next d s nn hd hpr =>
    split at hk
    · next t c0 c1 hs0 =>
      have hs:=hsub _ _ hs0
      obtain⟨g1,hk2⟩:=nZ hk
      simp only[Bool.and_eq_true]at g1
      obtain⟨gt,ga,gl⟩:=g1
      have gl:s<ah:=(Nat.blt_eq▸gl:_)
      obtain⟨ca,cb,hca⟩:∃ ca cb,aG=#[ca,cb]:=by
       have:=hargs.1
       simp only[List.length_cons,List.length_nil,Array.length_toList]at this
       exact⟨aG[0],aG[1],by
        apply Array.ext
        · simp;omega
        · intro i h1 h2
          have:i=0∨i=1:=by simp at h2;omega
          rcases this with rfl | rfl<;>rfl⟩
      subst hca
      have ha:=hargs.2 0 _ ca rfl rfl
      have hb:=hargs.2 1 _ cb rfl rfl
      have hcb:cb=.int .u8 nn:=by
       cases hb with
       | p _ _ hv=>cases hv;rfl
      subst hcb
      obtain⟨b,C',fr,q1,rfl,q2,q3,q4,q5,q6⟩:=P9 r hs ha
      obtain⟨q,cs,k1,k2,k3⟩:=Fh r hsub (rv:=.nilIface) hs q1 q2 q3 q4 (Ld hs q1 ga q5) q6 gl (ys:=[.int .u8 nn]) (by simp[aA,kindOk]) rfl (fun w' h' β'=>.p _ _ .oO) (fun ss=>rfl) hk2
      rw[hpr]at hC
      refine call _ (hC t (Ci gt) w b q cs C' fr nn k1 k2) fun e w' hR=>?_
      obtain⟨rfl,hput⟩:=hR
      obtain⟨e,M',β',z1,z2,z3⟩:=k3 w' hput
      rw[hd]
      exact⟨_,rfl,⟨_,rfl⟩,e,M',β',z1,z2,z3⟩
    · simp[DT.run]at hk
  · next d s hd hpr =>
    split at hk
    · next t c0 c1 hs0 =>
      have hs:=hsub _ _ hs0
      have his:(look st.heap s).isSome=true:=by rw[hs];rfl
      obtain⟨g1,hk2⟩:=nZ hk
      simp only[Bool.and_eq_true]at g1
      obtain⟨gt,ga,gl⟩:=g1
      have gl:s<ah:=(Nat.blt_eq▸gl:_)
      obtain⟨ca,hca⟩:∃ ca,aG=#[ca]:=by
       have:=hargs.1
       simp only[List.length_cons,List.length_nil,Array.length_toList]at this
       exact⟨aG[0],by
        apply Array.ext
        · simp;omega
        · intro i h1 h2
          have:i=0:=by simp at h2;omega
          subst this;rfl⟩
      subst hca
      have ha:=hargs.2 0 _ ca rfl rfl
      obtain⟨b,C',fr,q1,rfl,q2,q3,q4,q5,q6⟩:=P9 r hs ha
      have h0:=Ld hs q1 ga q5
      rw[hpr]at hC
      have fin : ∀ (q : Option (Nat × Nat)) (x : ByteArray) (w' : World),EZ w b q w' → w'.heap[b]? = w.heap[b]? → (∀ g0 o,q = some (g0,o) → ∃ g e xs,g < ah ∧ look st.heap g = some (.br e xs) ∧ β g = some (g0,o) ∧ ∃ C e' fr fr',w.heap[g0]? = some (.cells C e' fr) ∧ w'.heap[g0]? = some (.cells C e' fr') ∧ Past xs.length fr') →
          Rel w0 Pr M0 M β (st.apply (some d) { val:=.p (.str x) }) (a.put (some d) (.string x)) w':=by
        intro q x w' hkp hbk hgq
        have hkq:∀ k,k<w.heap.size→(∀ o,q≠some (k,o))→w'.heap[k]?=w.heap[k]?:=fun k hk hq=>by
         by_cases e:k=b
         · rw[e];exact hbk
         · exact hkp.keep k hk e hq
        have r2:Rel w0 Pr M0 M β { st with heap:=st.heap } a w':=by
         refine r.KU (hp':=st.heap) hkp.size hkp.os hkp.tape hkp.output (fun k hk hc=>hkq k hk fun o e=>?_) (fun k n hk hc hr=>?_) (fun _ h=>h) (fun _ h=>.inl h) (fun _ h=>h) (fun y blk hy=>?_)
         · obtain⟨g,e',xs,gl0,g1,g2,-⟩:=hgq k o e
           obtain⟨m1,m2,m3⟩:=r.own g k o (by rw[g1];rfl) g2
           rcases hc with h | ⟨h1,h2⟩
           · exact m1 h
           · rcases m3.1 with h | h
             · omega
             · exact h2 h
         · by_cases hq:∃ o,q=some (k,o)
           · obtain⟨o,e⟩:=hq
             obtain⟨g,e',xs,gl0,g1,g2,C,e2,fr,fr',c1,c2,c3⟩:=hgq k o e
             obtain⟨C1,e3,Rh,h1,h2,h3⟩:=hr
             rw[c1]at h1;cases h1
             obtain⟨m1,m2,m3⟩:=r.own g k o (by rw[g1];rfl) g2
             rcases hc with ⟨s',o',blk,q1',q2',q3'⟩ | ⟨q1',q2'⟩
             · have hsg:=r.inj s' g k o' o (by rw[q1'];rfl) (by rw[g1];rfl) q2' g2
               subst hsg
               rw[g1]at q1';cases q1'
               have q3':n%2=1:=q3'
               exact⟨C,e2,fr',c2,h2,fun h=>by omega⟩
             · rcases m3.2 with h | h
               · omega
               · omega
           · exact hr.of_block (hkq k hk fun o e=>hq ⟨o,e⟩)
         · by_cases hq:∃ g0 o,q=some (g0,o)∧β y=some (g0,o)
           · obtain⟨g0,o,e,ajE⟩:=hq
             obtain⟨g,e',xs,gl0,g1,g2,C,e2,fr,fr',c1,c2,c3⟩:=hgq g0 o e
             have hyg:y=g:=r.inj y g g0 o o (by rw[hy];rfl) (by rw[g1];rfl) ajE g2
             subst hyg
             rw[g1]at hy;cases hy
             refine⟨_,g1,.inr ⟨Like.refl _,?_⟩⟩
             cases r.heap y _ g1 with
             | DR=>exact .DR _
             | br _ _ b' C2 fr2 k1 k2 k3 k4 k5 k6 =>
              rw[g2]at k1;cases k1
              rw[c1]at k2;cases k2
              exact .br _ _ g0 C fr' g2 c2 k3 c3 k5 k6
           · refine⟨blk,hy,.inl ⟨rfl,fun k o hk=>hkq k (r.own y k o (by rw[hy];rfl) hk).2.1 fun o' e=>?_⟩⟩
             obtain⟨g,e',xs,gl0,g1,g2,-⟩:=hgq k o' e
             have hyg:y=g:=r.inj y g k o o' (by rw[hy];rfl) (by rw[g1];rfl) hk g2
             subst hyg
             exact hq ⟨k,o',e,g2⟩
        have e:st.apply (some d) { val:=.p (.str x) }={ env:=Skm.setEnv st.env (some d) (.p (.str x)),heap:=st.heap }:=by
         simp only[St.apply,present,List.nil_append,cZ];rfl
        rw[e]
        exact r2.setEnv (some d) (.p _ _ (.str x))
      split at hk2
      · have hC1 : C'.getD 1 undef = .slice none 0 0 := by
          generalize C'.getD 1 undef=u at q6
          cases q6 with
          | p _ _ hv=>cases hv;rfl
        refine call _ (hC t (Ci gt) w b none [] C' fr ⟨q2,q3,q4,h0,.inl ⟨rfl,rfl,hC1⟩,by simp[zJ],by simp⟩ (by simp)) fun e w' hR=>?_
        obtain⟨rfl,hkp,hbk,-⟩:=hR
        rw[hd]
        refine⟨_,rfl,⟨_,rfl⟩,_,M,β,hk2,fun _=>hkp.drawn,fun hf=>⟨?_,fun _ _=>rfl,eU BX⟩⟩
        exact fin none ByteArray.empty w' hkp hbk (fun g o h=>by cases h)
      · next g =>
        split at hk2
        · next ef xs hg0 =>
          have hg:=hsub _ _ hg0
          obtain⟨m1,hk3⟩:=nZ hk2
          obtain⟨mL,hk3⟩:=nZ hk3
          have mL:xs.length≤2147483648:=of_decide_eq_true mL
          obtain⟨m2,hk4⟩:=nZ hk3
          simp only[Bool.and_eq_true]at m1
          obtain⟨hks,hgl,hgs⟩:=m1
          have hks:ef=fi.cfg.JR:=by simpa using hks
          subst hks
          have hgl:g<ah:=(Nat.blt_eq▸hgl:_)
          have hgs:g≠s:=by simpa using hgs
          have hig:(look st.heap g).isSome=true:=by rw[hg];rfl
          obtain⟨q,e1,e2',e4⟩:=row_of r hg q6
          have hall:∀ x∈xs,x.isByte=true:=by
           rw[List.all_eq_true]at m2;exact m2
          rw[RH hall]at e1
          refine call _ (hC t (Ci gt) w b q _ C' fr ⟨q2,q3,q4,h0,e1,fun c hc=>?_,fun o h=>?_⟩ (by simpa [bytesOf] using mL)) fun e w' hR=>?_
          · obtain⟨x,_,rfl⟩:=List.mem_map.1 hc
            exact⟨_,rfl⟩
          · exact hgs (r.inj g s b o 0 hig his (e2' b o h) q1)
          · obtain⟨rfl,hkp,hbk,hmk⟩:=hR
            rw[hd]
            refine⟨_,rfl,⟨_,rfl⟩,_,M,β,hk4,fun _=>hkp.drawn,fun hf=>⟨?_,fun _ _=>rfl,eU BX⟩⟩
            refine fin q _ w' hkp hbk (fun g0 o h=>?_)
            obtain⟨C2,e2,fr2,fr',c1,c2,c3⟩:=hmk g0 o h
            exact⟨g,_,xs,hgl,hg,e2' g0 o h,C2,e2,fr2,fr',c1,c2,by simpa [bytesOf] using c3⟩
        · simp[DT.run]at hk2
      · simp[DT.run]at hk2
    · simp[DT.run]at hk
  · simp[DT.run]at hk
end
end Go.Skm
namespace Go.Skm
section
variable {P:Program} {T:Tab} {w0:Base} {Pr M0 M:Nat→Prop} {β:Nat→Option (Nat × Nat)} {st:St} {a:Act} {w:World} {o:Oper}
theorem Rel.more (r : Rel w0 Pr M0 M β st a w) {M' : Nat → Prop} (h1 : ∀ b,M b → M' b)
    (h2:∀ b,M' b→M b∨(b<w.heap.size∧(w0.n0≤b∧(w0.heap.size≤b∨Pr b))∧∀ s o,(look st.heap s).isSome=true→β s≠some (b,o))):Rel w0 Pr M0 M' β st a w:=by
  have hM:∀ b,M b→M' b∧w.heap[b]?=w.heap[b]?:=fun b h=>⟨h1 b h,rfl⟩
  have key:∀ (v:AV) (c:Value),AR w M β (look st.heap) v c→AR w M' β (look st.heap) v c:=fun v c h =>
   h.mono hM fun s blk _ hl=>⟨blk,hl,Like.refl _,rfl,fun _ _ _ _ h=>h⟩
  refine⟨r.lV,fun t v h=>key _ _ (r.env t v h),fun s blk hl=>?_,fun s b o hl hb=>?_,r.inj,fun b h=>?_,fun b h=>?_,fun b h=>h1 b (r.oJ b h),r.keep,r.room,r.size,r.os,r.tape,r.output,fun p hp=>⟨h1 _ (r.lK p hp).1,(r.lK p hp).2⟩⟩
  · cases r.heap s blk hl with
    | box cs b o C e fr g1 g2 g3 g4 g5 g6=>exact .box _ b o C e fr g1 g2 g3 g4 g5 fun j c hc=>key _ _ (g6 j c hc)
    | fM a ks=>exact .fM a ks
    | log on ys=>exact .log on ys
    | arr a ks xs b o C e fr g1 g2 g3 g4 g5 g6=>exact .arr a ks xs b o C e fr g1 g2 g3 g4 g5 fun i x j c hx hc=>(g6 i x j c hx hc).mono hM
    | tb t c0 c1 b C fr g1 g2 g3 g4 g5 g6 g7 g8=>exact .tb t c0 c1 b C fr g1 g2 g3 g4 g5 g6 (key _ _ g7) (key _ _ g8)
    | mp t es b o E k g1 g2 g3 g4=>exact .mp t es b o E k g1 g2 g3 fun i p e hi he=>⟨(g4 i p e hi he).1.mono hM,(g4 i p e hi he).2.mono hM⟩
    | DR e=>exact .DR e
    | br e xs b C fr g1 g2 g3 g4 g5 g6=>exact .br e xs b C fr g1 g2 g3 g4 g5 g6
  · obtain⟨g1,g2,g3⟩:=r.own s b o hl hb
    refine⟨fun h=>?_,g2,g3⟩
    rcases h2 b h with h | ⟨_,_,h⟩
    · exact g1 h
    · exact h s o hl hb
  · rcases h2 b h with h | ⟨h,_⟩
    · exact r.fJ b h
    · exact h
  · rcases h2 b h with h | ⟨_,h,_⟩
    · exact r.jX b h
    · exact .inr h
theorem Bc {keep:Bool} {b0 b1:aI} (s:Nat):look (je keep [b0,b1]) s=if s=ah then some b0 else if s=bZ keep then some b1 else none:=by
 simp only[je,look]
 by_cases h:s=ah
 · subst h;simp
 · have:(ah==s)=false:=by simp;exact fun e=>h e.symm
   rw[this,if_neg h]
   simp only[cond_false]
   by_cases h':s=bZ keep
   · subst h';simp
   · have:(bZ keep==s)=false:=by simp;exact fun e=>h' e.symm
     rw[this,if_neg h'];rfl
theorem Lh (keep:Bool):bZ keep≠ah:=by cases keep<;>simp[bZ,ah]
theorem Lj {β:Type}:∀ {l:List β} {r:List β} {x:β},qL l=some (r,x)→l=r++[x]
 | [],r,x,h=>by cases h
 | [y],r,x,h=>by simp[qL]at h;obtain⟨rfl,rfl⟩:=h;rfl
 | y::z::l,r,x,h=>by
  simp only[qL]at h
  split at h
  · rename_i r' x' e
    simp only[Option.some.injEq,Prod.mk.injEq]at h
    obtain⟨rfl,rfl⟩:=h
    rw[Lj e];rfl
  · cases h
theorem UD {h:Nat→Option aI} {pre:List AV} {v:AV} {cs:List Value} (hl:kW w M β h (pre++[v]) cs):AR w M β h v (cs.getD pre.length undef)∧∀ (i:Nat) (x:AV) (c:Value),pre[i]?=some x→cs[i]?=some c→AR w M β h x c:=by
 have hn:cs.length=pre.length+1:=by have:=hl.1;simp at this;omega
 refine⟨?_,fun i x c hi hc=>hl.2 i x c (by rw[List.getElem?_append_left (List.getElem?_eq_some_iff.1 hi).1];exact hi) hc⟩
 have hc:cs[pre.length]?=some (cs.getD pre.length undef):=by
  rw[List.getD_eq_getElem?_getD,List.getElem?_eq_getElem (by omega)];rfl
 exact hl.2 pre.length v _ (by simp) hc
theorem BR.Fj {w:World} {M M':Nat→Prop} {β β':Nat→Option (Nat × Nat)} {h h':Nat→Option aI} {s s':Nat} {sa:Bool} {ks:List Kd} {xs:List PV} (hM:∀ b,M b→M' b) (hb:BR w M β h s (.arr sa ks xs)) (e:β' s'=β s):BR w M' β' h' s' (.arr sa ks xs):=by
 cases hb with
 | fM=>exact .fM _ _
 | arr _ _ _ b o C e' fr g1 g2 g3 g4 g5 g6=>exact .arr _ _ _ b o C e' fr (e.trans g1) g2 g3 g4 g5 fun i x j c h1 h2=>(g6 i x j c h1 h2).mono fun b h=>⟨hM b h,rfl⟩
theorem Oc (ok : bP P T) {C : aF} (hC : gX P T w0.gl C) (r : Rel w0 Pr M0 M β st a w) {h' : Nat → Option aI} (hsub : ∀ s b,h' s = some b → look st.heap s = some b) {d f : Nat} {fi : FI} {pre : List AV} {aG : Array Value}
    {s A:Nat} {nw:List Nat} {sa:Bool} {ks:List Kd} {off len:Nat} {xs:List PV} {v:AV}
    (hd:o.dst=some d) (hf:bG T.funcs f=some fi) (Qa:fi.cfg.vcall=true) (hargs:kW w M β (look st.heap) (pre++[.ptr s 0 0]) aG.toList) (he:(execOp a.eval o).run P w=(callFunc f aG).run P w)
    (hs:look st.heap s=some (.box [v]))
    (hcase:(nw=[]∧look st.heap A=some (.arr sa ks xs)∧∃ z,v=.slice A z off len)∨(nw=[A]∧v=.p .nil∧off=0∧len=0∧xs=[]∧fi.cfg.vkeep=false)) :
    dI P w0 Pr M0 β st a w o (J5 T C h' d f fi pre s A nw sa ks off len xs):=by
  unfold J5
  cases hdp:C9 h' pre with
  | none=>exact⟨fun _ _ _ _ hk=>by simp[DT.run]at hk⟩
  | some q =>
  obtain⟨vs,ss⟩:=q
  simp only
  cases ZE:(Nat.blt s 100000&&(Nat.blt A 100000&&!(A==s)))&&(!(dZ s ss)&&!(dZ A ss)) with
  | false=>exact⟨fun _ _ _ _ hk=>by simp[DT.run]at hk⟩
  | true =>
  simp only[Bool.and_eq_true,Bool.not_eq_true',Nat.blt_eq]at ZE
  obtain⟨⟨hs1,hA1,hAs⟩,hss,XE⟩:=ZE
  have hAs:A≠s:=by simpa using hAs
  have hss:s ∉ ss:=dK.1 hss
  have XE:A ∉ ss:=dK.1 XE
  have hsA:s≠A:=fun e=>hAs e.symm
  simp only[cond_true]
  refine⟨fun hnd α k res hk rd n Q=>?_⟩
  obtain⟨⟨rs,iU⟩,hcall,hk⟩:=GL hk
  obtain⟨hbody,D7⟩:=hC.var f fi _ _ _ _ _ _ _ rs iU hf Qa hcall
  obtain⟨aeL,hpre0⟩:=UD hargs
  have hnum:aG.size=pre.length+1:=by have:=hargs.1;simp at this;omega
  have hargs0:kW w M β (look st.heap) pre (aG.toList.take pre.length):=by
   refine⟨by simp;omega,fun i x c hi hc=>?_⟩
   rw[List.getElem?_take]at hc
   split at hc
   · exact hpre0 i x c hi hc
   · cases hc
  obtain⟨d1,d2,d3⟩:=E5 (fun s b h=>r.heap s b (hsub s b h)) hsub hdp hargs0
  have d1:vs.length=pre.length:=by rw[d1];simp;omega
  cases hres:pY T d [] 0 fi.cfg.rets fi.fn.resultTypes.toList rs with
  | none=>rw[hres]at hk;simp[DT.run]at hk
  | some xb =>
  obtain⟨rv,bs⟩:=xb
  rw[hres]at hk
  cases bs with
  | cons x y=>simp[DT.run]at hk
  | nil =>
  simp only[DT.run]at hk
  refine qP hnd ?_
  rw[he,yF ok hf hbody,Oper.uponIn_enter]
  refine⟨yE rd,bW rd ?_⟩
  have his:(look st.heap s).isSome=true:=by rw[hs];rfl
  let pA:Option (Nat × Nat):=match nw with | []=>β A | _=>none
  have hpA:∀ b o,pA=some (b,o)→nw=[]∧look st.heap A=some (.arr sa ks xs)∧β A=some (b,o):=by
   intro b o h
   rcases hcase with ⟨rfl,h1,_⟩ | ⟨rfl,_⟩
   · exact⟨rfl,h1,h⟩
   · have e:pA=none:=rfl
     rw[e]at h;cases h
  have ajF:nw=[]→pA=β A:=by
   intro h
   subst h
   rfl
  let βc:Nat→Option (Nat × Nat):=fun x=>if x=ah then β s else if x=bZ fi.cfg.vkeep then pA else none
  have bc0:βc ah=β s:=by simp[βc]
  have bc1:βc (bZ fi.cfg.vkeep)=pA:=by simp[βc,Lh]
  have hlv:=fun x=>Bc (keep:=fi.cfg.vkeep) (b0:=.box [.slice (bZ fi.cfg.vkeep) ks.length off len]) (b1:=.arr sa ks xs) x
  have hl0:=hlv ah
  rw[if_pos rfl]at hl0
  have hl1:=hlv (bZ fi.cfg.vkeep)
  rw[if_neg (Lh _),if_pos rfl]at hl1
  have live:∀ x,(look (je fi.cfg.vkeep [.box [.slice (bZ fi.cfg.vkeep) ks.length off len],.arr sa ks xs]) x).isSome=true→x=ah∨x=bZ fi.cfg.vkeep:=by
   intro x hx
   rw[hlv x]at hx
   by_cases h1:x=ah
   · exact .inl h1
   · rw[if_neg h1]at hx
     by_cases h2:x=bZ fi.cfg.vkeep
     · exact .inr h2
     · rw[if_neg h2]at hx;cases hx
  have hup:∀ b,M b→aY M β ss b:=fun b h=>.inl h
  have aa5:∀ x b o,(look st.heap x).isSome=true→β x=some (b,o)→x ∉ ss→¬ aY M β ss b:=by
   intro x b o hx hb hn hm
   rcases hm with hm | ⟨s',o',hs',hb'⟩
   · exact(r.own x b o hx hb).1 hm
   · exact hn (by rw[r.inj x s' b o o' hx (d3 s' hs') hb hb'];exact hs')
  have hpre:P5 fi.cfg.vkeep w (aY M β ss) βc (cond fi.cfg.yR (vs.map .p) (normArgs T fi.fn.params.toList vs)++[.ptr ah 0 0]) [.box [.slice (bZ fi.cfg.vkeep) ks.length off len],.arr sa ks xs] aG:=by
   have hlen:(cond fi.cfg.yR (vs.map .p) (normArgs T fi.fn.params.toList vs)).length=pre.length:=by cases fi.cfg.yR<;>simp[d1,sS]
   refine⟨by simp[hlen,hnum],fun i x hi=>?_,fun x b hx=>?_,fun x b o hx hb=>?_,fun x y b o o' hx hy hb hb'=>?_,fun b hb=>?_⟩
   · by_cases hi':i<pre.length
     · rw[List.getElem?_append_left (by rw[hlen];exact hi')]at hi
       obtain⟨y,hy,hv⟩:=Ii (T:=T) (w:=w) fi.cfg.yR _ _ i x hi
       have hc:(aG.toList.take pre.length)[i]?=some (aG.getD i undef):=by
        rw[List.getElem?_take,if_pos hi',List.getElem?_eq_getElem (by simp;omega)]
        have:i<aG.size:=by omega
        simp[this]
       exact hv _ _ _ _ (d2 i y _ hy hc)
     · have e : i = pre.length := by
         have:=(List.getElem?_eq_some_iff.1 hi).1
         simp[hlen]at this;omega
       subst e
       rw[List.getElem?_append_right (by rw[hlen];exact Nat.le_refl _),hlen,Nat.sub_self]at hi
       simp at hi;subst hi
       have e:aG.getD pre.length undef=aG.toList.getD pre.length undef:=by
        rw[Array.getD_eq_getD_getElem?,List.getD_eq_getElem?_getD,Array.getElem?_toList]
       rw[e]
       generalize aG.toList.getD pre.length undef=u at aeL
       cases aeL with
       | ptrB _ _ cs b o h1 hb=>exact .ptrB ah 0 _ b o hl0 (bc0.trans hb)
       | ptrA _ _ _ a ks xs b o h1 hi hb=>rw[hs]at h1;cases h1
       | ptrT _ _ t c0 c1 b h1 hb=>rw[hs]at h1;cases h1
   · rcases live x (by rw[hx];rfl) with rfl | rfl
     · rw[hl0]at hx;cases hx
       cases r.heap s _ hs with
       | box _ b o C e fr g1 g2 g3 g4 g5 g6 =>
        refine .box _ b o C e fr (bc0.trans g1) g2 g3 g4 (fun c hc=>by simp at hc;subst hc;rfl) fun j c hj=>?_
        cases j with
        | succ j=>simp at hj
        | zero =>
         simp at hj;subst hj
         have hv:=g6 0 v rfl
         rcases hcase with ⟨rfl,hA,z,rfl⟩ | ⟨rfl,rfl,rfl,rfl,rfl,hk⟩
         · have hz : z = ks.length := by
             generalize C.getD (o+0) undef=u at hv
             cases hv with
             | slice _ _ _ a' ks' xs' b' o' cap h1 hl hb hcap hr=>rw[hA]at h1;cases h1;rfl
             | sliceE _ _ a' ks' xs' base h1 hl=>rw[hA]at h1;cases h1;rfl
           subst hz
           exact hv.gy hA hl1 bc1
         · generalize C.getD (o+0) undef=u at hv
           cases hv with
           | p _ _ hv=>cases hv;exact .sliceE _ 0 sa ks [] none hl1 (by simp)
     · rw[hl1]at hx;cases hx
       rcases hcase with ⟨rfl,hA,z,rfl⟩ | ⟨rfl,rfl,rfl,rfl,rfl,hk⟩
       · exact(r.heap A _ hA).Fj hup bc1
       · exact .fM _ _
   · rcases live x hx with rfl | rfl
     · rw[bc0]at hb
       exact⟨aa5 s b o his hb hss,(r.own s b o his hb).2.1⟩
     · rw[bc1]at hb
       obtain⟨_,hA,hb⟩:=hpA b o hb
       have hiA:(look st.heap A).isSome=true:=by rw[hA];rfl
       exact⟨aa5 A b o hiA hb XE,(r.own A b o hiA hb).2.1⟩
   · rcases live x hx with rfl | rfl<;>rcases live y hy with rfl | rfl
     · rfl
     · rw[bc0]at hb;rw[bc1]at hb'
       obtain⟨_,hA,hb'⟩:=hpA b o' hb'
       exact absurd (r.inj s A b o o' his (by rw[hA];rfl) hb hb') hsA
     · rw[bc1]at hb;rw[bc0]at hb'
       obtain⟨_,hA,hb⟩:=hpA b o hb
       exact absurd (r.inj s A b o' o his (by rw[hA];rfl) hb' hb) hsA
     · rfl
   · rcases hb with hb | ⟨s',o,hs',hb⟩
     · exact r.fJ b hb
     · exact(r.own s' b o (d3 s' hs') hb).2.1
  refine Calls.mono (D7 w _ βc aG (fun p hp=>⟨.inl (r.lK p hp).1,(r.lK p hp).2⟩) hpre) fun e w' hpost=>?_
  obtain⟨cs,M',rfl,post⟩:=hpost
  refine⟨⟨_,rfl⟩,?_⟩
  show ∃ e M' β',_
  obtain⟨off',len',ys,bb,bo,Cb,eb,fb,p,rfl,q1,q2,q3,q4,q5,q6,q7,q8,q9⟩:=post.back
  rw[bc0]at q1
  have hkeep:∀ b,b<w.heap.size→b≠bb→(∀ o,pA≠some (b,o))→w'.heap[b]?=w.heap[b]?:=fun b hb h1 h2 =>
   post.keep b hb (fun o h=>by rw[bc0,q1]at h;cases h;exact h1 rfl) fun o h=>by rw[bc1]at h;exact h2 o h
  obtain⟨ob1,ob2,ob3,ob4⟩:=r.own s bb bo his q1
  have aky:ah=100000:=rfl
  have hnb:w0.n0≤bb:=by rcases ob4 with h | h<;>omega
  have hnA:∀ b o,pA=some (b,o)→¬ M b∧b<w.heap.size∧(w0.heap.size≤b∨Pr b)∧w0.n0≤b:=by
   intro b o h
   obtain⟨_,hA,hb⟩:=hpA b o h
   obtain⟨g1,g2,g3,g4⟩:=r.own A b o (by rw[hA];rfl) hb
   exact⟨g1,g2,g3,by rcases g4 with h | h<;>omega⟩
  have hvar:zx [aI.box [.slice (bZ fi.cfg.vkeep) ks.length off' len'],.arr sa ks ys]=ys:=rfl
  have hvV:sK [aI.box [.slice (bZ fi.cfg.vkeep) ks.length off' len'],.arr sa ks ys]=.slice (bZ fi.cfg.vkeep) ks.length off' len':=rfl
  rw[hvar,hvV]at hk
  simp only[AV.Es,AV.sLen]at hk
  obtain⟨β1,hh1,ps,abI,hps⟩:=post.res
  by_cases hfz:¬ fU (nw++ss)=true
  · exact⟨_,M',β,hk,post.drawn,fun h=>absurd h hfz⟩
  have hfz:fU (nw++ss)=true:=Classical.not_not.1 hfz
  have r1:=r.freeze (present st.heap nw) ss (jh hfz).2 d3
  have hst1:∀ x,look (st.strike (present st.heap nw++ss)).heap x=if x∈present st.heap nw++ss then none else(look st.heap x).map (aI.kill (present st.heap nw++ss)):=fun x=>bQ _ x
  have hsn:s ∉ present st.heap nw++ss:=by
   intro hm
   rcases List.mem_append.1 hm with hm | hm
   · rcases hcase with ⟨rfl,_⟩ | ⟨rfl,_⟩
     · simp[present]at hm
     · have:=(lu hm).1;simp at this;exact hsA this
   · exact hss hm
  have hs1':look (st.strike (present st.heap nw++ss)).heap s=some (.box [v]):=by
   rw[hst1,if_neg hsn,hs]
   show some (aI.box [AV.kill _ v])=_
   congr 2
   rcases hcase with ⟨rfl,hA,z,rfl⟩ | ⟨rfl,rfl,_⟩
   · simp[AV.kill,AV.refers,present,dK.2 XE]
   · rfl
  have ada:nw=[]→look (st.strike (present st.heap nw++ss)).heap A=some (.arr sa ks xs):=by
   intro hn
   rcases hcase with ⟨_,hA,_⟩ | ⟨h,_⟩
   · rw[hst1,if_neg (by rw[hn];simpa [present] using XE),hA];rfl
   · rw[hn]at h;cases h
  have ajG:nw≠[]→look (st.strike (present st.heap nw++ss)).heap A=none:=by
   intro hn
   rcases hcase with ⟨h,_⟩ | ⟨h,_⟩
   · exact absurd h hn
   · subst h
     rw[hst1]
     by_cases hm:A∈present st.heap [A]++ss
     · rw[if_pos hm]
     · rw[if_neg hm]
       cases hl:look st.heap A with
       | none=>rfl
       | some b=>exact absurd (List.mem_append.2 (.inl (oZ (by simp) (by rw[hl];rfl)))) hm
  have ZF:∀ x,(look (st.strike (present st.heap nw++ss)).heap x).isSome=true→(look st.heap x).isSome=true:=fun x hx=>(Rz hx).2
  generalize abJ:st.strike (present st.heap nw++ss)=st1 at r1 hs1' ada ajG ZF
  have hpo:∀ b o,p=some (b,o)→¬ M' b∧b<w'.heap.size∧((w0.heap.size≤b∨Pr b)∧(w0.n0≤b∨ah≤A))∧b≠bb:=by
   intro b o hp
   obtain⟨g1,g2,g3,g4⟩:=q8 b o hp
   refine⟨g1,g2,?_,g3⟩
   rcases g4 with g4 | ⟨o',g4⟩
   · exact⟨.inl (by have:=r.size;omega),.inl (by have:=r.size;have:=w0.le';omega)⟩
   · rw[bc1]at g4
     obtain⟨_,_,k3,k4⟩:=hnA b o' g4
     exact⟨k3,.inl k4⟩
  have hpl:∀ b o,p=some (b,o)→∀ x o',x≠A→(look st1.heap x).isSome=true→β x≠some (b,o'):=by
   intro b o hp x o' hx hl hb
   obtain⟨_,_,_,g4⟩:=q8 b o hp
   rcases g4 with g4 | ⟨o'',g4⟩
   · have:=(r1.own x b o' hl hb).2.1;omega
   · rw[bc1]at g4
     obtain⟨_,hA,g4⟩:=hpA b o'' g4
     exact hx (r.inj x A b o' o'' (ZF x hl) (by rw[hA];rfl) hb g4)
  have hkM:∀ b,b<w.heap.size→(aY M β ss b∨(b<w0.heap.size∧¬ Pr b))→w'.heap[b]?=w.heap[b]?:=by
   intro b hb hm
   refine hkeep b hb (fun e=>?_) fun o h=>?_
   · subst e
     rcases hm with hm | ⟨h1,h2⟩
     · exact aa5 s b bo his q1 hss hm
     · rcases ob3 with h | h
       · omega
       · exact h2 h
   · obtain⟨g1,g2,g3,g4⟩:=hnA b o h
     obtain⟨_,hA,hb'⟩:=hpA b o h
     rcases hm with hm | ⟨h1,h2⟩
     · exact aa5 A b o (by rw[hA];rfl) hb' XE hm
     · rcases g3 with h | h
       · omega
       · exact h2 h
  have hput:∀ (hp:Heap) (x:Nat),look (cZ hp [(A,.arr sa ks ys),(s,.box [.slice A ks.length off' len'])]) x=if x=s then some (.box [.slice A ks.length off' len']) else if x=A then some (.arr sa ks ys) else look hp x:=by
   intro hp x
   show look (put (put hp A _) s _) x=_
   rw[aV,aV]
  have aeM:Ro st.heap [(A,.arr sa ks ys),(s,.box [.slice A ks.length off' len'])]:=by
   intro x b hx
   simp at hx
   rcases hx with ⟨rfl,_⟩ | ⟨rfl,_⟩
   · exact .inl hA1
   · exact .inl hs1
  cases hkp:fi.cfg.vkeep with
  | true =>
   rw[hkp]at hk bc1
   obtain⟨k1,k2,k3⟩:=q9 hkp
   rw[bc1]at k1
   have hn:nw=[]∧look st.heap A=some (.arr sa ks xs):=by
    rcases hcase with ⟨h1,h2,_⟩ | ⟨_,_,_,_,_,h⟩
    · exact⟨h1,h2⟩
    · rw[hkp]at h;cases h
   have ZG:pA=β A:=by
    exact ajF hn.1
   have hA1:=ada hn.1
   have r2:Rel w0 Pr M0 M' β { st1 with heap:=cZ st1.heap [(A,.arr sa ks ys),(s,.box [.slice A ks.length off' len'])] } a w':=by
    refine r1.KU post.size post.os post.tape post.output hkM (fun b n hb h hr=>?_) post.fJ (fun b hb=>?_) (fun x hx=>?_) (fun x blk hx=>?_)
    · rcases h with ⟨x,o,blk,h1,h2,h3⟩ | ⟨h1,h2⟩
      · by_cases e1:x=s
        · subst e1;rw[hs1']at h1;cases h1;exact h3.elim
        · by_cases e2:x=A
          · subst e2;exact k3 b o n (by rw[k1,ZG];exact h2) hr
          · refine hr.of_block (hkeep b hb (fun e=>?_) fun o' h=>?_)
            · subst e;exact e1 (r1.inj x s b o bo (by rw[h1];rfl) (by rw[hs1'];rfl) h2 q1)
            · rw[ZG]at h;exact e2 (r1.inj x A b o o' (by rw[h1];rfl) (by rw[hA1];rfl) h2 h)
      · refine hr.of_block (hkeep b hb (fun e=>by omega) fun o' h=>?_)
        have:=(hnA b o' h).2.2.2;omega
    · rcases post.jX b hb with h | h | ⟨o,h⟩
      · exact .inl h
      · exact .inr ⟨h,post.mlt b hb⟩
      · rw[hkp,bc1]at h
        exact absurd hb (q8 b o (by rw[k1];exact h)).1
    · rw[hput]
      have h1:x≠s:=by rintro rfl;rw[hs1']at hx;cases hx
      have h2:x≠A:=by rintro rfl;rw[hA1]at hx;cases hx
      rw[if_neg h1,if_neg h2];exact hx
    · rw[hput]
      by_cases e1:x=s
      · subst e1
        rw[hs1']at hx;cases hx
        refine⟨_,if_pos rfl,.inr ⟨rfl,?_⟩⟩
        refine .box _ bb bo Cb eb fb q1 q3 (by simpa using q4) q5 (fun c hc=>by simp at hc;subst hc;rfl) fun j c hj=>?_
        cases j with
        | succ j=>simp at hj
        | zero =>
         simp at hj;subst hj
         exact q6.gy rfl (by rw[hput,if_neg hAs,if_pos rfl]) (by rw[k1,ZG])
      · rw[if_neg e1]
        by_cases e2:x=A
        · subst e2
          rw[hA1]at hx;cases hx
          exact⟨_,if_pos rfl,.inr ⟨⟨rfl,rfl,k2⟩,q7.Fj (fun _ h=>h) (by rw[k1,ZG])⟩⟩
        · refine⟨blk,by rw[if_neg e2];exact hx,.inl ⟨rfl,fun b o h=>hkeep b (r1.own x b o (by rw[hx];rfl) h).2.1 (fun e=>?_) fun o' h'=>?_⟩⟩
          · subst e;exact e1 (r1.inj x s b o bo (by rw[hx];rfl) (by rw[hs1'];rfl) h q1)
          · rw[ZG]at h';exact e2 (r1.inj x A b o o' (by rw[hx];rfl) (by rw[hA1];rfl) h h')
   obtain⟨β2,r3,nP⟩:=r2.results (d:=d) abI hres (fun s hs=>by simp[keysOf]at hs) (fun b o hb=>absurd (hps _ hb) (by simp)) (fun j s blk hj=>by simp at hj)
   refine⟨_,M',β2,hk,post.drawn,fun _=>⟨?_,fun x _=>nP x (by simp[keysOf]),eU aeM⟩⟩
   rw[hd]
   have e:st.apply (some d) { val:=mg rv,lJ:=[(A,.arr sa ks ys),(s,.box [.slice A ks.length off' len'])],new:=nw,cut:=cond true [] [A],wP:=ss }={ env:=Skm.setEnv st1.env (some d) (mg rv),heap:=cZ (cZ st1.heap [(A,.arr sa ks ys),(s,.box [.slice A ks.length off' len'])]) [] }:=by
    rw[← abJ];rfl
   rw[e];exact r3
  | false =>
   rw[hkp]at hk bc1
   have r2:Rel w0 Pr M0 (aY M β ss) β (st1.strike [A]) a w:=r1.strike [A] (fun _ h=>h) fun _ h=>.inl h
   have hst2:∀ x,look (st1.strike [A]).heap x=if x=A then none else(look st1.heap x).map (aI.kill [A]):=fun x=>by rw[bQ];simp
   have hs2:look (st1.strike [A]).heap s=some (.box [AV.kill [A] v]):=by rw[hst2,if_neg hsA,hs1'];rfl
   have Ll:∀ x,(look (st1.strike [A]).heap x).isSome=true→x≠A∧(look st1.heap x).isSome=true:=by
    intro x hx
    rw[hst2]at hx
    by_cases e:x=A
    · rw[if_pos e]at hx;cases hx
    · rw[if_neg e]at hx;exact⟨e,by simpa using hx⟩
   have hapart:∀ x b o,(look (st1.strike [A]).heap x).isSome=true→β x=some (b,o)→∀ o',pA≠some (b,o'):=by
    intro x b o hx hb o' h
    obtain⟨hn,hA,h⟩:=hpA b o' h
    exact(Ll x hx).1 (r1.inj x A b o o' (Ll x hx).2 (by rw[ada hn];rfl) hb h)
   generalize aeN:st1.strike [A]=st2 at r2 hst2 hs2 Ll hapart
   have r3:Rel w0 Pr M0 (fun b=>M' b∧(aY M β ss b∨w.heap.size≤b)) β { st2 with heap:=put st2.heap s (.box [.undef]) } a w':=by
    refine r2.KU post.size post.os post.tape post.output hkM (fun b n hb h hr=>?_) (fun b h=>⟨post.fJ b h,.inl h⟩) (fun b hb=>hb.2.imp id fun h=>⟨h,post.mlt b hb.1⟩) (fun x hx=>?_) (fun x blk hx=>?_)
    · rcases h with ⟨x,o,blk,h1,h2,h3⟩ | ⟨h1,h2⟩
      · by_cases e1:x=s
        · subst e1;rw[hs2]at h1;cases h1;exact h3.elim
        · refine hr.of_block (hkeep b hb (fun e=>?_) (hapart x b o (by rw[h1];rfl) h2))
          subst e;exact e1 (r2.inj x s b o bo (by rw[h1];rfl) (by rw[hs2];rfl) h2 q1)
      · refine hr.of_block (hkeep b hb (fun e=>by omega) fun o' h=>?_)
        have:=(hnA b o' h).2.2.2;omega
    · have h1:x≠s:=by rintro rfl;rw[hs2]at hx;cases hx
      rw[aV,if_neg h1];exact hx
    · rw[aV]
      by_cases e1:x=s
      · subst e1
        rw[hs2]at hx;cases hx
        refine⟨_,if_pos rfl,.inr ⟨rfl,?_⟩⟩
        refine .box _ bb bo Cb eb fb q1 q3 (by simpa using q4) q5 (fun c hc=>by simp at hc;subst hc;rfl) fun j c hj=>?_
        cases j with
        | succ j=>simp at hj
        | zero=>simp at hj;subst hj;exact .undef _
      · refine⟨blk,by rw[if_neg e1];exact hx,.inl ⟨rfl,fun b o h=>hkeep b (r2.own x b o (by rw[hx];rfl) h).2.1 (fun e=>?_) (hapart x b o (by rw[hx];rfl) h)⟩⟩
        subst e;exact e1 (r2.inj x s b o bo (by rw[hx];rfl) (by rw[hs2];rfl) h q1)
   have UE:∀ x,(look (put st2.heap s (.box [.undef])) x).isSome=true→(look st2.heap x).isSome=true:=by
    intro x hx
    rw[aV]at hx
    by_cases e:x=s
    · subst e;rw[hs2];rfl
    · rw[if_neg e]at hx;exact hx
   have r4:Rel w0 Pr M0 M' β { st2 with heap:=put st2.heap s (.box [.undef]) } a w':=by
    refine r3.more (fun b h=>h.1) fun b hb=>?_
    rcases post.jX b hb with h | h | ⟨o,h⟩
    · exact .inl ⟨hb,.inl h⟩
    · exact .inl ⟨hb,.inr h⟩
    · rw[hkp,bc1]at h
      obtain⟨g1,g2,g3,g4⟩:=hnA b o h
      exact .inr ⟨by have:=post.size;omega,⟨g4,g3⟩,fun x o' hx hb'=>hapart x b o' (UE x hx) hb' o h⟩
   have hfree:look (put st2.heap s (.box [.undef])) A=none:=by rw[aV,if_neg hAs,hst2,if_pos rfl]
   have r5:=r4.lay (s:=A) (blk:=.arr sa ks ys) hfree (p:=p) (fun b o hp=>by
    obtain⟨g1,g2,g3,g4⟩:=hpo b o hp
    exact⟨g1,g2,g3,fun x o' hx=>hpl b o hp x o' (Ll x (UE x hx)).1 (Ll x (UE x hx)).2⟩) (q7.Fj (fun _ h=>h) (by simp))
   have r6:Rel w0 Pr M0 M' (fun x=>if x=A then p else β x) { st2 with heap:=put (put (put st2.heap s (.box [.undef])) A (.arr sa ks ys)) s (.box [.slice A ks.length off' len']) } a w':=by
    refine r5.KU (Nat.le_refl _) rfl rfl rfl (fun _ _ _=>rfl) (fun _ _ _ _ h=>h) (fun _ h=>h) (fun _ h=>.inl h) (fun x hx=>?_) (fun x blk hx=>?_)
    · have h1 : x ≠ s := by
        rintro rfl
        have hx:look (put (put st2.heap x (.box [.undef])) A (.arr sa ks ys)) x=none:=hx
        rw[aV,if_neg hsA,aV,if_pos rfl]at hx;cases hx
      rw[aV,if_neg h1];exact hx
    · rw[aV]
      by_cases e1:x=s
      · subst e1
        have hx:look (put (put st2.heap x (.box [.undef])) A (.arr sa ks ys)) x=some blk:=hx
        rw[aV,if_neg hsA,aV,if_pos rfl]at hx;cases hx
        refine⟨_,if_pos rfl,.inr ⟨rfl,?_⟩⟩
        refine .box _ bb bo Cb eb fb (by simp only[if_neg hsA];exact q1) q3 (by simpa using q4) q5 (fun c hc=>by simp at hc;subst hc;rfl) fun j c hj=>?_
        cases j with
        | succ j=>simp at hj
        | zero =>
         simp at hj;subst hj
         exact q6.gy rfl (by rw[aV,if_neg hAs,aV,if_pos rfl]) (by simp)
      · exact⟨blk,by rw[if_neg e1];exact hx,.inl ⟨rfl,fun _ _ _=>rfl⟩⟩
   obtain⟨β2,r7,nP⟩:=r6.results (d:=d) abI hres (fun s hs=>by simp[keysOf]at hs) (fun b o hb=>absurd (hps _ hb) (by simp)) (fun j s blk hj=>by simp at hj)
   refine⟨_,M',β2,hk,post.drawn,fun _=>⟨?_,fun x hx=>(nP x (by simp[keysOf])).trans (if_neg (by omega)),eU aeM⟩⟩
   rw[hd]
   have e:st.apply (some d) { val:=mg rv,lJ:=[(A,.arr sa ks ys),(s,.box [.slice A ks.length off' len'])],new:=nw,cut:=cond false [] [A],wP:=ss }={ env:=Skm.setEnv st2.env (some d) (mg rv),heap:=cZ (fD [A] st1.heap) [(A,.arr sa ks ys),(s,.box [.slice A ks.length off' len'])] }:=by
    rw[← aeN,← abJ];rfl
   rw[e]
   refine Rel.congr (st:={ env:=Skm.setEnv st2.env (some d) (mg rv),heap:=put (put (put st2.heap s (.box [.undef])) A (.arr sa ks ys)) s (.box [.slice A ks.length off' len']) }) r7 fun x=>?_
   show look (cZ (fD [A] st1.heap) _) x=look (put (put (put st2.heap s (.box [.undef])) A (.arr sa ks ys)) s (.box [.slice A ks.length off' len'])) x
   rw[hput,aV]
   by_cases e1:x=s
   · rw[if_pos e1,if_pos e1]
   · rw[if_neg e1,if_neg e1,aV]
     by_cases e2:x=A
     · rw[if_pos e2,if_pos e2]
     · rw[if_neg e2,if_neg e2,aV,if_neg e1,fA,hst2,if_neg e2]
theorem aa6 (ok : bP P T) {C : aF} (hC : gX P T w0.gl C) (r : Rel w0 Pr M0 M β st a w) {h' : Nat → Option aI} (hsub : ∀ s b,h' s = some b → look st.heap s = some b) {f : Nat} {args : List AV} {aG : Array Value}
    (Qa:(iZ T f).vcall=true) (hargs:kW w M β (look st.heap) args aG.toList) (he:(execOp a.eval o).run P w=(callFunc f aG).run P w):dI P w0 Pr M0 β st a w o (Jb T C h' o.dst f args):=by
  have fail:dI P w0 Pr M0 β st a w o .fail:=⟨fun _ _ _ _ hk=>by simp[DT.run]at hk⟩
  unfold Jb
  split
  · rename_i d fi pre s hd hf hu
    have aeO:fi.cfg.vcall=true:=by rw[← Qa];simp[iZ,hf]
    have ha:=Lj hu
    subst ha
    split
    · rename_i A z off len hs
      split
      · rename_i sa ks xs hA
        exact Oc ok hC r hsub hd hf aeO hargs he (hsub _ _ hs) (.inl ⟨rfl,hsub _ _ hA,z,rfl⟩)
      · exact fail
    · rename_i hs
      cases hk:fi.cfg.vkeep with
      | true=>exact fail
      | false=>exact Oc ok hC r hsub hd hf aeO hargs he (hsub _ _ hs) (.inr ⟨rfl,rfl,rfl,rfl,rfl,hk⟩)
    · exact fail
  · exact fail
end
end Go.Skm
namespace Go.Skm
theorem XF:H8 #[] 0 0:=⟨rfl,by simp,by simp⟩
theorem UF {E:Array MapEntry} {k n:Nat} (h:H8 E k n) (key val:Value):H8 (E.push { key,val,born:=k }) (k+1) (n+1):=by
 obtain⟨h1,h2,h3⟩:=h
 refine⟨by simp[h1],?_,?_⟩
 · intro e he
   simp only[Array.toList_push,List.mem_append,List.mem_singleton]at he
   rcases he with he | rfl
   · have:=h2 e he;omega
   · simp
 · simp only[Array.toList_push,List.map_append,List.map_cons,List.map_nil]
   refine List.nodup_append.mpr ⟨h3,by simp,?_⟩
   intro x hx y hy
   simp only[List.mem_singleton]at hy
   subst hy
   obtain⟨e,he,rfl⟩:=List.mem_map.1 hx
   have:=h2 e he
   omega
theorem MQ {E:Array MapEntry} {i:Nat} {f:MapEntry→MapEntry}:(E.modify i f).toList=E.toList.modify i f:=by simp
theorem Qb {E:Array MapEntry} {k n i:Nat} (h:H8 E k n) {f:MapEntry→MapEntry} (hf:∀ e,(f e).born=e.born):H8 (E.modify i f) k n:=by
 obtain⟨h1,h2,h3⟩:=h
 have hm:((E.modify i f).toList.map (·.born))=E.toList.map (·.born):=by
  rw[MQ]
  apply List.ext_getElem?
  intro j
  simp only[List.getElem?_map,List.getElem?_modify]
  cases E.toList[j]? with
  | none=>rfl
  | some e=>by_cases hj:i=j<;>simp[hj,hf]
 refine⟨by simp[h1],?_,by rw[hm];exact h3⟩
 intro e he
 have:e.born∈(E.modify i f).toList.map (·.born):=List.mem_map.2 ⟨e,he,rfl⟩
 rw[hm]at this
 obtain⟨e',he',e1⟩:=List.mem_map.1 this
 have:=h2 e' he'
 omega
section
variable {P:Program} {T:Tab} {w0:Base} {Pr M0 M:Nat→Prop} {β:Nat→Option (Nat × Nat)} {st:St} {a:Act} {w:World} {d:Option Nat}
theorem RI (_ok : bP P T) (r : Rel w0 Pr M0 M β st a w) {t : TypeId} {x : Option AV} {c : Option Value} (hx : IY w M β (look st.heap) x c) :
    aO P w0 Pr M0 β st a w d (AL T d t x) (do pure (.value (← Instr.makeMap t c))):=by
  unfold AL
  split
  · rename_i d kt et hu
    have hc:c=none:=by
     cases c with
     | none=>rfl
     | some _=>exact hx.elim
    subst hc
    have run:(Instr.makeMap t none).run P w=.ok (.map (some w.heap.size)) (w.alloc (.map #[] 0)):=rfl
    have hr:=r.fresh (ss:=[]) (d:=d) (blk:=.mp t []) (v:=.mref d) (c:=.map (some w.heap.size)) (w':=w.alloc (.map #[] 0)) (b:=w.heap.size) (o:=0) rfl (by simp) (by simp) rfl rfl rfl (fun k hk=>alloc_old hk) (Nat.le_refl _) (by simp) (by
     intro β' h' hb hl hk hv
     exact⟨.mp t [] w.heap.size 0 #[] 0 hb lZ XF (fun i p e hi=>by simp at hi),.Kr d t [] w.heap.size 0 hl hb⟩)
    exact aO.ret (nv:=.value (.map (some w.heap.size))) (by simp only[Sem.run_bind,run,Result.andThen_ok,Sem.run_pure]) (.inl rfl) (fun _=>hr) (fun hf=>oG hf)
  · exact aO.fail
theorem D9 : ∀ {fs : List Field} {o : Nat}, vC T o fs = true → ∀ i f, fs[i]? = some f → f.offset = o + i ∧ f.name ≠ "_" ∧ mP T f.type = some 1 ∧ ∃ k, und T f.type = some (.int k)
 | [],o,_,i,f,h=>by simp at h
 | g::fs,o,hf,i,f,h=>by
  simp only[vC,Bool.and_eq_true,beq_iff_eq,bne_iff_ne,ne_eq]at hf
  obtain⟨⟨h1,h2,h3⟩,h4,h5⟩:=hf
  cases i with
  | zero =>
   simp at h;subst h
   have e3:mP T g.type=some 1:=by
    have:=Nat.eq_of_beq_eq_true h3
    cases hs:mP T g.type with
    | none=>rw[hs]at this;simp at this
    | some n=>rw[hs]at this;simpa using this
   refine⟨by omega,h2,e3,?_⟩
   split at h4
   · rename_i k hk;exact⟨k,hk⟩
   · cases h4
  | succ i =>
   simp at h
   obtain⟨g1,g2⟩:=D9 h5 i f h
   exact⟨by omega,g2⟩
theorem RJ (ok : bP P T) {em : Bool} {n : Nat} {cs : Array Value} : ∀ {fs : List Field} {o : Nat},vC T o fs = true → o + fs.length ≤ cs.size →
    (forIn fs PUnit.unit fun f _r=>do
      if f.name ≠ "_" then Instr.checkKey em (n + 1) f.type (← part f.type cs f.offset)
      pure (ForInStep.yield PUnit.unit):Sem PUnit).run P w=.ok PUnit.unit w:=by
  intro fs
  induction fs with
  | nil=>intro o _ _;simp
  | cons f fs ih =>
   intro o hf hl
   obtain⟨h1,h2,h3,h4⟩:=D9 hf 0 f rfl
   simp only[List.length_cons]at hl
   have hf':vC T (o+1) fs=true:=by
    simp only[vC,Bool.and_eq_true]at hf
    exact hf.2.2
   have hpart:∃ v,(part f.type cs f.offset).run P w=.ok v w∧(Instr.checkKey em (n+1) f.type v).run P w=.ok () w:=by
    have hcs:cs[f.offset]?=some cs[f.offset]! := by
     rw[getElem!_pos cs f.offset (by omega),Array.getElem?_eq_getElem]
    refine⟨cs[f.offset]!,?_,?_⟩
    · obtain⟨k,hu⟩:=h4
      simp[part,isAgg,aZ (ok.und hu),hcs]
    · obtain⟨k,hu⟩:=h4
      simp[Instr.checkKey,aZ (ok.und hu)]
   obtain⟨v,p1,p2⟩:=hpart
   simp only[List.forIn_cons,Sem.run_bind,ne_eq,h2,not_false_eq_true,if_true,p1,Result.andThen_ok,p2,Sem.run_pure]
   exact ih hf' (by omega)
theorem MR (ok : bP P T) {t : TypeId} (hk : BK T t = true) {cs : Array Value} {fs : Array Field} (hu : und T t = some (.struct fs)) (hl : fs.size ≤ cs.size) {em : Bool} {n : Nat} :
    (Instr.checkKey em (n+2) t (.agg cs)).run P w=.ok () w:=by
  unfold BK at hk
  rw[hu]at hk
  simp only[Bool.and_eq_true]at hk
  have:=RJ (P:=P) (w:=w) ok (em:=em) (n:=n) (cs:=cs) hk.2 (by simpa using hl)
  rw[Instr.checkKey]
  simp only[Sem.run_bind,aZ (ok.und hu),Result.andThen_ok,← Array.forIn_toList,this,Sem.run_pure]
theorem Rel.writeM (r : Rel w0 Pr M0 M β st a w) {s b : Nat} {t : TypeId} {es es' : List (PV × PV)} {o : Nat} {w' : World} {E E' : Array MapEntry} {k k' : Nat}
    (hs:look st.heap s=some (.mp t es)) (hb:β s=some (b,o)) (hw:w.heap[b]?=some (.map E k)) (hw':w'.heap=w.heap.setIfInBounds b (.map E' k')) (hos:w'.os=w.os) (htp:w'.tape=w.tape) (hop:w'.output=w.output)
    (hn:H8 E' k' es'.length) (hB:(∀ (v:PV) (c:Value),VR w M v c→VR w' M v c)→∀ (i:Nat) (p:PV × PV) (e:MapEntry),es'[i]?=some p→E'[i]?=some e→VR w' M p.1 e.key∧VR w' M p.2 e.val) :
    Rel w0 Pr M0 M β { st with heap:=put st.heap s (.mp t es') } a w':=by
  have hi:(look st.heap s).isSome=true:=by rw[hs];rfl
  obtain⟨o1,o2,o3⟩:=r.own s b o hi hb
  have hlk:look (put st.heap s (.mp t es'))=fun x=>if x=s then some (.mp t es') else look st.heap x:=funext fun x=>aV _ _ _ _
  have hsz:w'.heap.size=w.heap.size:=by rw[hw'];simp
  have hne:∀ b',b'≠b→w'.heap[b']?=w.heap[b']?:=fun b' h=>by rw[hw',Array.getElem?_setIfInBounds_ne (fun e=>h e.symm)]
  have hself:w'.heap[b]?=some (.map E' k'):=by rw[hw'];simp[o2]
  have hM:∀ b',M b'→M b'∧w'.heap[b']?=w.heap[b']?:=fun b' h=>⟨h,hne b' fun e=>o1 (e▸h)⟩
  have hroom:∀ b' n,Room w b' n→Room w' b' n:=by
   intro b' n hr
   by_cases h:b'=b
   · subst h
     obtain⟨C1,e1,Rh,h1,h2,h3⟩:=hr
     rw[hw]at h1;cases h1
   · exact hr.of_block (hne b' h)
  have key:∀ (v:AV) (c:Value),AR w M β (look st.heap) v c→AR w' M β (fun x=>if x=s then some (.mp t es') else look st.heap x) v c:=by
   intro v c h
   refine h.mono hM fun s' b' _ h1=>?_
   by_cases h2:s'=s
   · subst h2;rw[hs]at h1;cases h1
     exact⟨.mp t es',by simp,rfl,rfl,fun b o n _ hr=>hroom b n hr⟩
   · exact⟨b',by simp only[if_neg h2];exact h1,Like.refl _,rfl,fun b o n _ hr=>hroom b n hr⟩
  refine⟨r.lV,fun t v h=>by rw[hlk];exact key _ _ (r.env t v h),?_,?_,?_,fun b' h=>by rw[hsz];exact r.fJ b' h,r.jX,r.oJ,?_,fun b' n h1 h2 h3=>hroom b' n (r.room b' n h1 h2 h3),by rw[hsz];exact r.size,hos.trans r.os,htp.trans r.tape,hop.trans r.output,fun p hp=>⟨(hM _ (r.lK p hp).1).1,(hM _ (r.lK p hp).1).2.trans (r.lK p hp).2⟩⟩
  · intro s' b' h1
    show BR w' M β (look (put st.heap s (.mp t es'))) s' b'
    by_cases h2:s'=s
    · subst h2
      simp only[hlk,if_true,Option.some.injEq]at h1;subst h1
      exact .mp t es' b o E' k' hb hself hn (hB fun v c h=>h.mono hM)
    · simp only[hlk,if_neg h2]at h1
      have hi':(look st.heap s').isSome=true:=by rw[h1];rfl
      rw[hlk]
      cases r.heap s' b' h1 with
      | box cs b1 o1 C1 e1 Rh g1 g2 g3 g4 g5 g6 =>
       exact .box _ b1 o1 C1 e1 Rh g1 (by rw[hne b1 fun e=>h2 (r.inj s' s b _ _ hi' hi (e▸g1) hb)];exact g2) g3 g4 g5 fun j c hc=>key _ _ (g6 j c hc)
      | fM a ks=>exact .fM a ks
      | log on ys=>exact .log on ys
      | arr a ks xs b1 o1 C1 e1 Rh g1 g2 g3 g4 g5 g6 =>
       exact .arr a ks xs b1 o1 C1 e1 Rh g1 (by rw[hne b1 fun e=>h2 (r.inj s' s b _ _ hi' hi (e▸g1) hb)];exact g2) g3 g4 g5 fun i x j c hx hc=>(g6 i x j c hx hc).mono hM
      | tb t c0 c1 b1 C1 Rh g1 g2 g3 g4 g5 g6 g7 g8 =>
       exact .tb t c0 c1 b1 C1 Rh g1 (by rw[hne b1 fun e=>h2 (r.inj s' s b _ _ hi' hi (e▸g1) hb)];exact g2) g3 g4 g5 g6 (key _ _ g7) (key _ _ g8)
      | mp t es b1 o1 E k g1 g2 g3 g4 =>
       exact .mp t es b1 o1 E k g1 (by rw[hne b1 fun e=>h2 (r.inj s' s b _ _ hi' hi (e▸g1) hb)];exact g2) g3 fun i p e hi he=>⟨(g4 i p e hi he).1.mono hM,(g4 i p e hi he).2.mono hM⟩
      | DR e=>exact .DR e
      | br e xs b1 C1 fr g1 g2 g3 g4 g5 g6=>exact .br e xs b1 C1 fr g1 (by rw[hne b1 fun e=>h2 (r.inj s' s b _ _ hi' hi (e▸g1) hb)];exact g2) g3 g4 g5 g6
  · intro s' b' o' h1 h2
    rw[hsz]
    by_cases h3:s'=s
    · subst h3;exact r.own s' b' o' hi h2
    · simp only[hlk,if_neg h3]at h1;exact r.own s' b' o' h1 h2
  · intro s' s'' b' o1 o2 h1 h2 h3 h4
    have hx:∀ x,(look (put st.heap s (.mp t es')) x).isSome=true→(look st.heap x).isSome=true:=by
     intro x hx
     by_cases h:x=s
     · subst h;exact hi
     · simpa only[hlk,if_neg h] using hx
    exact r.inj s' s'' b' o1 o2 (hx _ h1) (hx _ h2) h3 h4
  · intro b' h1 h2
    rw[hne b' ?_,r.keep b' h1 h2]
    rintro rfl
    rcases o3.1 with h | h
    · omega
    · exact h2 h
theorem Lm (ok : bP P T) {kt : TypeId} {fs : Array Field} (hk : Gj T kt = true) (hu : und T kt = some (.struct fs)) {kc : List PV} {vs : Array Value} (hvk : vs.size = kc.length) (hv : ∀ (i : Nat) (c : PV),kc[i]? = some c → VR w M c (vs.getD i undef)) :
    ∀ {es:List (PV × PV)} {E:List MapEntry} {q:Option Nat} (j:Nat),es.length=E.length→(∀ (i:Nat) (p:PV × PV) (e:MapEntry),es[i]?=some p→E[i]?=some e→VR w M p.1 e.key∧VR w M p.2 e.val)→oq T kt kc es=some q →
     (Instr.findAsking kt (.agg vs) E j).run P w=.ok (q.bind fun i=>(E[i]?).map fun e=>(j+i,e.val)) w∧∀ i,q=some i→∃ p e c us,es[i]?=some p∧E[i]?=some e∧p.1=.agg c∧e.key=.agg us∧OX T 4 kt kc c=some true:=by
  intro es
  induction es with
  | nil =>
   intro E q j hl hE hq
   have:E=[]:=List.length_eq_zero_iff.1 (by simpa using hl.symm)
   subst this
   simp[oq]at hq
   subst hq
   exact⟨by simp[Instr.findAsking],fun i h=>by cases h⟩
  | cons p es ih =>
   intro E q j hl hE hq
   match E,hl with
   | e::E,hl =>
    obtain⟨he1,he2⟩:=hE 0 p e rfl rfl
    have hrest:∀ (i:Nat) (p:PV × PV) (e:MapEntry),es[i]?=some p→E[i]?=some e→VR w M p.1 e.key∧VR w M p.2 e.val:=fun i p e h1 h2=>hE (i+1) p e (by simpa using h1) (by simpa using h2)
    unfold oq at hq
    cases hp:p.1 with
    | agg c =>
     rw[hp]at hq he1
     simp only[PV.Zf]at hq
     cases he1':e.key with
     | agg us =>
      rw[he1']at he1
      cases he1 with
      | agg _ _ hn hl1 hh =>
       have hpl:=ok.plain hk
       have hu':=ok.und hu
       unfold JU at hpl
       rw[hu']at hpl
       simp only[Bool.and_eq_true,Bool.not_eq_true']at hpl
       have hagg:tY P kt=true:=by unfold tY;rw[hu']
       have main:∀ b,OX T 4 kt kc c=some b→(Op.equal kt (.agg vs) (.agg us)).run P w=.ok b w:=by
        intro b hb
        exact Um ok 4 9996 kt kc c b (.agg vs) (.agg us) hpl.1 hb (by unfold Rep;rw[if_pos hagg];exact⟨vs,rfl,hvk,hv⟩) (by unfold Rep;rw[if_pos hagg];exact⟨us,rfl,hn,hh⟩)
       cases hq1:OX T 4 kt kc c with
       | none=>rw[hq1]at hq;cases hq
       | some b =>
        rw[hq1]at hq
        have hm:=main b hq1
        cases b with
        | true =>
         simp only[Option.some.injEq]at hq
         subst hq
         refine⟨by simp[Instr.findAsking,he1',hm],fun i hi=>?_⟩
         cases hi
         exact⟨p,e,c,us,rfl,rfl,hp,he1',hq1⟩
        | false =>
         simp only[Option.map_eq_some_iff]at hq
         obtain⟨q',hq',rfl⟩:=hq
         obtain⟨g1,g2⟩:=ih (j+1) (by simpa using hl) hrest hq'
         refine⟨?_,fun i hi=>?_⟩
         · simp only[Instr.findAsking,he1',Sem.run_bind,hm,Result.andThen_ok,Bool.false_eq_true,if_false,g1]
           cases q' with
           | none=>rfl
           | some i =>
            simp only[Option.bind_some,Option.map_some,List.getElem?_cons_succ,show j+1+i=j+(i+1) by omega]
         · cases q' with
           | none=>cases hi
           | some i' =>
            simp only[Option.map_some,Option.some.injEq]at hi
            subst hi
            obtain⟨p2,e2,c2,us2,k1,k2,k3⟩:=g2 i' rfl
            exact⟨p2,e2,c2,us2,by simpa using k1,by simpa using k2,k3⟩
     | _=>rw[he1']at he1;cases he1
    | _=>rw[hp]at hq;simp[PV.Zf]at hq
   | [],hl=>simp at hl
def PV.uJ:PV→Bool
 | .int _ _=>true
 | _=>false
theorem Oe:∀ {fs:List Field} {o:Nat} {xs ys:List PV},vC T o fs=true→MK (mP T) (OX T 3) fs xs ys=some true→xs=ys∧xs.length=fs.length∧∀ x∈xs,x.uJ=true
 | [],o,xs,ys,_,h=>by
  cases xs<;>cases ys<;>simp[MK]at h
  simp
 | f::fs,o,xs,ys,hf,h=>by
  obtain⟨h1,h2,h3,h4⟩:=D9 hf 0 f rfl
  have hf':vC T (o+1) fs=true:=by
   simp only[vC,Bool.and_eq_true]at hf
   exact hf.2.2
  unfold MK at h
  rw[h3]at h
  simp only at h
  cases hc:(Nat.ble 1 xs.length&&Nat.ble 1 ys.length) with
  | false=>rw[hc]at h;cases h
  | true =>
   rw[hc]at h
   simp only[cond_true,Bool.and_eq_true,Nat.ble_eq]at h hc
   match xs,ys,hc with
   | x::xs,y::ys,_ =>
    simp only[List.take_succ_cons,List.take_zero,List.drop_succ_cons,List.drop_zero]at h
    cases e1:OX T 3 f.type [x] [y] with
    | none=>rw[e1]at h;simp at h
    | some b1 =>
     cases e2:MK (mP T) (OX T 3) fs xs ys with
     | none=>rw[e1,e2]at h;simp at h
     | some b2 =>
      rw[e1,e2]at h
      simp only[Option.some.injEq,Bool.and_eq_true]at h
      obtain⟨rfl,rfl⟩:=h
      obtain⟨g1,g2,g3⟩:=Oe hf' e2
      have hxy:x=y∧x.uJ=true:=by
       unfold OX at e1
       obtain⟨k,hu⟩:=h4
       rw[hu]at e1
       cases x<;>cases y<;>simp[JV]at e1
       rename_i k1 n1 k2 n2 _
       cases hj:(k1==k2) with
       | false=>rw[hj]at e1;cases e1
       | true =>
        rw[hj]at e1
        simp only[cond_true,Option.some.injEq]at e1
        have e1:=eq_of_beq e1
        have hj':k1=k2:=by simpa using hj
        subst hj'
        subst e1
        exact⟨rfl,rfl⟩
      obtain⟨rfl,hp⟩:=hxy
      subst g1
      refine⟨rfl,by simp[g2],?_⟩
      intro z hz
      rcases List.mem_cons.1 hz with rfl | hz
      · exact hp
      · exact g3 z hz
   | [],_,hc=>simp at hc
   | _::_,[],hc=>simp at hc
theorem MS {x:PV} {c d:Value} {n:Nat} (hx:x.uJ=true) (h1:VR w M x c) (h2:VR w M x d):Instr.sameBits n c d=true:=by
 cases h1<;>simp[PV.uJ]at hx<;>cases h2<;>cases n<;>simp[Instr.sameBits]
theorem Qc {kc : List PV} {us vs : Array Value} {n : Nat} (hp : ∀ x ∈ kc,x.uJ = true) (hu : us.size = kc.length) (hv : vs.size = kc.length) (h1 : ∀ (i : Nat) (c : PV),kc[i]? = some c → VR w M c (us.getD i undef))
    (h2:∀ (i:Nat) (c:PV),kc[i]?=some c→VR w M c (vs.getD i undef)):Instr.sameBits (n+1) (.agg us) (.agg vs)=true:=by
  unfold Instr.sameBits
  simp only[Bool.and_eq_true,beq_iff_eq,List.all_eq_true]
  refine⟨by omega,?_⟩
  rintro ⟨a,b⟩ hab
  obtain⟨i,hi,e⟩:=List.getElem_of_mem hab
  simp only[List.getElem_zip,Prod.mk.injEq]at e
  have hi':i<us.size∧i<vs.size:=by simp at hi;omega
  have hk:kc[i]?=some kc[i]:=List.getElem?_eq_getElem (by omega)
  have g1:=h1 i _ hk
  have g2:=h2 i _ hk
  rw[Array.getD,dif_pos hi'.1]at g1
  rw[Array.getD,dif_pos hi'.2]at g2
  obtain⟨e1,e2⟩:=e
  have f1:us.getInternal i hi'.1=a:=by rw[← e1];simp
  have f2:vs.getInternal i hi'.2=b:=by rw[← e2];simp
  rw[f1]at g1
  rw[f2]at g2
  exact MS (hp _ (List.getElem_mem (by omega))) g1 g2
theorem MV (ok : bP P T) (r : Rel w0 Pr M0 M β st a w) {h' : Nat → Option aI} (hsub : ∀ s b,h' s = some b → look st.heap s = some b) {t : TypeId} {m k v : AV} {cm ck cv : Value}
    (hm:AR w M β (look st.heap) m cm) (hk:AR w M β (look st.heap) k ck) (hv:AR w M β (look st.heap) v cv):aO P w0 Pr M0 β st a w d (wV T h' t m k v) (do Instr.mapUpdate t cm ck cv;pure .skip):=by
  unfold wV
  split
  · rename_i kt et s kc v hu
    have hu:=ok.und hu
    split
    · rename_i u es hl0
      have hl:=hsub _ _ hl0
      refine aO.chk fun hb=>aO.chk fun hf=>?_
      simp only[Bool.and_eq_true]at hb
      obtain⟨hb1,hb2,hb3⟩:=hb
      have hb3:=Nat.eq_of_beq_eq_true hb3
      cases hm with
      | Kt _ _ _ _ _ g1=>rw[hl]at g1;cases g1
      | AU _ _ g1=>rw[hl]at g1;cases g1
      | Kr _ u' es' b o g1 g2 =>
       cases r.heap s _ hl with
       | mp _ _ b' o' E n k1 k2 k3 k4 =>
        rw[g2]at k1;cases k1
        cases hk with
        | p _ _ hk =>
        cases hk with
        | agg _ vs hvn hvl Qa =>
        cases hv with
        | p _ _ hv =>
        obtain⟨q,hq⟩:=Option.isSome_iff_exists.1 hf
        rw[hq,Option.getD_some]
        obtain⟨fs,hfs⟩:∃ fs,und T kt=some (.struct fs):=by
         unfold BK at hb1
         simp only[Bool.and_eq_true]at hb1
         have:=hb1.2
         split at this
         · rename_i fs hfs;exact⟨fs,hfs⟩
         · cases this
        have hplain:Gj T kt=true:=by
         unfold BK at hb1
         simp only[Bool.and_eq_true]at hb1
         exact hb1.1
        have aeP:vC T 0 fs.toList=true:=by
         unfold BK at hb1
         rw[hfs]at hb1
         simp only[Bool.and_eq_true]at hb1
         exact hb1.2
        obtain⟨f1,f2⟩:=Lm (P:=P) ok hplain hfs hvn Qa (E:=E.toList) 0 (by simpa using k3.1.symm) (fun i p e hi he=>k4 i p e hi (by simpa using he)) hq
        have aeQ:(getObj b).run P w=.ok (.map E n) w:=by simp[getObj,Sem.run,k2]
        have hset:∀ o':Obj,(setObj b o').run P w=.ok () { w with heap:=w.heap.setIfInBounds b o' }:=fun o'=>by simp[setObj,Sem.run,k2]
        have hfl:fs.size≤vs.size:=by
         have:nFields T kt=fs.size:=by unfold nFields;rw[hfs]
         omega
        have ZE:=MR (P:=P) (w:=w) ok hb1 (cs:=vs) hfs hfl (em:=false) (n:=9998)
        have hfind:(Instr.findKey kt (.agg vs) E.toList).run P w=.ok (q.bind fun i=>(E.toList[i]?).map fun e=>(0+i,e.val)) w:=by
         rw[run_findKey_eq w (by rw[ok.und hfs]) (.agg vs) E.toList]
         exact f1
        cases q with
        | none =>
         have run:(Instr.mapUpdate t (.map (some b)) (.agg vs) cv).run P w=.ok () { w with heap:=w.heap.setIfInBounds b (.map (E.push { key:=.agg vs,val:=cv,born:=n }) (n+1)) }:=by
          simp only[Instr.mapUpdate,Sem.run_bind,aZ hu,Result.andThen_ok,aeQ,ZE,hfind,Option.bind_none,hset]
         refine aO.ret (h5:=fun _=>lM (.inr ⟨_,hl,rfl⟩)) (nv:=.skip) (c:=undef) (M':=M) (β':=β) (by simp only[Sem.run_bind,run,Result.andThen_ok,Sem.run_pure];rfl) (.inr ⟨rfl,rfl⟩) fun _=>?_
         rw[GK]
         have hw:=r.writeM (es':=yK es (.agg kc) v none) (w':={ w with heap:=w.heap.setIfInBounds b (.map (E.push { key:=.agg vs,val:=cv,born:=n }) (n+1)) }) hl g2 k2 rfl rfl rfl rfl (by
          have:=UF k3 (.agg vs) cv
          simpa [yK] using this) (by
          intro hmono i p e hi he
          simp only[yK,List.getElem?_append]at hi
          rw[Array.getElem?_push,k3.1]at he
          split at hi
          · rename_i hlt
            rw[if_neg (by omega)]at he
            exact⟨hmono _ _ (k4 i p e hi he).1,hmono _ _ (k4 i p e hi he).2⟩
          · rename_i hge
            have hi0:i-es.length=0:=by
             have:=(List.getElem?_eq_some_iff.1 hi).1
             simp at this;omega
            have:i=es.length:=by omega
            rw[if_pos this]at he
            rw[hi0]at hi
            simp only[List.getElem?_cons_zero,Option.some.injEq]at hi he
            subst hi he
            exact⟨hmono _ _ (.agg kc vs hvn hvl Qa),hmono _ _ hv⟩)
         exact hw.setEnv d (v:=.undef) (c:=undef) (.undef _)
        | some i =>
         obtain⟨p,e,c,us,j1,j2,j3,j4,j5⟩:=f2 i rfl
         have j2':E[i]?=some e:=by simpa using j2
         have j1':=(k4 i p e j1 j2').1
         rw[j3,j4]at j1'
         have hsame:kc=c∧∀ x∈kc,x.uJ=true:=by
          unfold OX at j5
          rw[hfs]at j5
          obtain⟨x1,x2,x3⟩:=Oe aeP j5
          exact⟨x1,x3⟩
         obtain⟨rfl,hpl⟩:=hsame
         have hsb:Instr.sameBits 10000 (.agg us) (.agg vs)=true:=by
          cases j1' with
          | agg _ _ hn hl1 hh=>exact Qc (n:=9999) hpl hn hvn hh Qa
         have hst:(Instr.keyThatStays (((E[i]?).map (·.key)).getD (.agg vs)) (.agg vs)).run P w=.ok (.agg vs) w:=by
          rw[j2',Option.map_some,Option.getD_some,j4]
          unfold Instr.keyThatStays
          rw[if_pos hsb]
          rfl
         have run:(Instr.mapUpdate t (.map (some b)) (.agg vs) cv).run P w=.ok () { w with heap:=w.heap.setIfInBounds b (.map (E.modify i fun e=>{ e with key:=.agg vs,val:=cv }) n) }:=by
          simp only[Instr.mapUpdate,Sem.run_bind,aZ hu,Result.andThen_ok,aeQ,ZE,hfind,Option.bind_some,j2,Option.map_some,Nat.zero_add,hst,hset]
         refine aO.ret (h5:=fun _=>lM (.inr ⟨_,hl,rfl⟩)) (nv:=.skip) (c:=undef) (M':=M) (β':=β) (by simp only[Sem.run_bind,run,Result.andThen_ok,Sem.run_pure];rfl) (.inr ⟨rfl,rfl⟩) fun _=>?_
         rw[GK]
         have hw:=r.writeM (es':=yK es (.agg kc) v (some i)) (w':={ w with heap:=w.heap.setIfInBounds b (.map (E.modify i fun e=>{ e with key:=.agg vs,val:=cv }) n) }) hl g2 k2 rfl rfl rfl rfl (by
          have:=Qb k3 (i:=i) (f:=fun e=>{ e with key:=.agg vs,val:=cv }) (fun _=>rfl)
          simpa [yK] using this) (by
          intro hmono j p' e' hj he
          simp only[yK,List.getElem?_set]at hj
          rw[Array.getElem?_modify]at he
          by_cases hij:i=j
          · subst hij
            have hlt:=(List.getElem?_eq_some_iff.1 j1).1
            rw[if_pos rfl,if_pos hlt]at hj
            rw[if_pos rfl,j2']at he
            simp only[Option.map_some,Option.some.injEq]at hj he
            subst hj he
            have:es.getD i (.nil,.nil)=p:=by simp[List.getD,j1]
            rw[this,j3]
            exact⟨hmono _ _ (.agg kc vs hvn hvl Qa),hmono _ _ hv⟩
          · rw[if_neg hij]at hj
            rw[if_neg hij]at he
            exact⟨hmono _ _ (k4 j p' e' hj he).1,hmono _ _ (k4 j p' e' hj he).2⟩)
         exact hw.setEnv d (v:=.undef) (c:=undef) (.undef _)
    · exact aO.fail
  · exact aO.fail
end
end Go.Skm
