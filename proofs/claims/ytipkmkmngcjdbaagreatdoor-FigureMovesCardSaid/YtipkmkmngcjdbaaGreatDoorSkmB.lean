/-
  A machine that runs this program's functions on pure values, and the proof that what it returns is true of the program; no condition beside the hypotheses of each.
-/
import Derived.Test.YtipkmkmngcjdbaaGreatDoorSkmA
namespace Go.Skm
section
variable {P:Program} {T:Tab} {w:World} {M:Nat→Prop} {β:Nat→Option (Nat × Nat)} {h:Nat→Option aI}
theorem Dh {α β:Type} (g:α→Sem β) (φ:α→β):∀ (l:List α),(∀ x∈l,(g x).run P w=.ok (φ x) w)→(l.mapM g).run P w=.ok (l.map φ) w
 | [],_=>by simp
 | x::r,hx=>by
  simp only[List.mapM_cons,Sem.run_bind,hx x (by simp),Result.andThen_ok,Dh g φ r (fun y hy=>hx y (by simp[hy])),Sem.run_pure,List.map_cons]
theorem Zo {α β:Type} (g:α→Sem β) (φ:α→β) (l:Array α) (hx:∀ x∈l.toList,(g x).run P w=.ok (φ x) w):(l.mapM g).run P w=.ok (l.map φ) w:=by
 rw[Array.mapM_eq_mapM_toList,Sem.run_map,Dh g φ l.toList hx]
 simp only[Result.andThen_ok]
 congr 1
 apply Array.ext';simp
def PS (w:World) (M:Nat→Prop) (β:Nat→Option (Nat × Nat)) (h:Nat→Option aI) (cs:List AV) (vs:Array Value):Prop :=
 vs.size=cs.length∧(∀ c∈cs,c.leaf=true)∧∀ (i:Nat) (c:AV),cs[i]?=some c→AR w M β h c (vs.getD i undef)
theorem foldl_set (vs : List Value) (off : Nat) : ∀ (start : Nat) (acc : Array Value),off + start + vs.length ≤ acc.size →
    ((vs.zipIdx start).foldl (fun cs (cj:Value × Nat)=>cs.setIfInBounds (off+cj.2) cj.1) acc).size=acc.size ∧
    ∀ i,((vs.zipIdx start).foldl (fun cs (cj:Value × Nat)=>cs.setIfInBounds (off+cj.2) cj.1) acc).getD i undef =
     if off+start≤i∧i<off+start+vs.length then(vs.toArray).getD (i-off-start) undef else acc.getD i undef:=by
  induction vs with
  | nil=>intro start acc _;refine⟨by simp,fun i=>?_⟩;rw[if_neg (by simp only[List.length_nil];omega)];simp
  | cons v r ih =>
   intro start acc hlen
   simp only[List.length_cons]at hlen
   simp only[List.zipIdx_cons,List.foldl_cons]
   obtain⟨h1,h2⟩:=ih (start+1) (acc.setIfInBounds (off+start) v) (by simp;omega)
   refine⟨by rw[h1];simp,fun i=>?_⟩
   rw[h2 i]
   by_cases hi:off+start=i
   · subst hi
     rw[if_neg (by omega),if_pos (by simp)]
     have:off+start<acc.size:=by omega
     simp[this]
   · by_cases hj:off+(start+1)≤i∧i<off+(start+1)+r.length
     · rw[if_pos hj,if_pos (by simp;omega)]
       have e:i-off-start=(i-off-(start+1))+1:=by omega
       rw[e];simp
     · rw[if_neg hj,if_neg (by simp;omega)]
       simp[Array.getElem?_setIfInBounds_ne hi]
theorem oV {β : Type} (cs : List β) (off : Nat) (vs : List β) (hl : off + vs.length ≤ cs.length) (i : Nat) :
    (patch cs off vs)[i]?=if off≤i∧i<off+vs.length then vs[i-off]? else cs[i]?:=by
  unfold patch
  by_cases h1:i<off
  · rw[List.append_assoc,List.getElem?_append_left (by simp;omega),List.getElem?_take,if_pos h1,if_neg (by omega)]
  · by_cases h2:i<off+vs.length
    · rw[List.getElem?_append_left (by simp;omega),List.getElem?_append_right (by simp;omega),if_pos (by omega)]
      congr 1;simp;omega
    · rw[List.getElem?_append_right (by simp;omega),List.getElem?_drop,if_neg (by omega)]
      congr 1;simp;omega
theorem iG {β:Type} (cs:List β) (off:Nat) (vs:List β) (hl:off+vs.length≤cs.length):(patch cs off vs).length=cs.length:=by
 simp[patch];omega
theorem KA {place : Nat → Option (Nat × Nat)} : ∀ (parts : List (Nat × AV)) (KC : List (Nat × Value)) (cs : List AV) (vs : Array Value) (cs' : List AV),
    PS w M β h cs vs→parts.length=KC.length→(∀ (i:Nat) (p:Nat × AV) (q:Nat × Value),parts[i]?=some p→KC[i]?=some q→p.1=q.1∧AR w M β h p.2 q.2) →
    Dc place cs parts=some cs'→∃ vs',Instr.fill place vs KC=some vs'∧PS w M β h cs' vs'
  | [],KC,cs,vs,cs',hc,hn,_,hf=>by
   have:KC=[]:=by simpa using hn.symm
   subst this
   simp[Dc]at hf;subst hf
   exact⟨vs,rfl,hc⟩
  | (i,v)::r,[],cs,vs,cs',hc,hn,_,hf=>by simp at hn
  | (i,v)::r,(j,c)::cr,cs,vs,cs',hc,hn,hp,hf=>by
   have hp0:=hp 0 (i,v) (j,c) (by simp) (by simp)
   simp only at hp0
   obtain⟨rfl,hv⟩:=hp0
   simp only[Dc]at hf
   cases hpl:place i with
   | none=>rw[hpl]at hf;cases hf
   | some p =>
    obtain⟨off,size⟩:=p
    rw[hpl]at hf
    simp only at hf
    cases hb:(v.cells.length==size&&Nat.ble (off+size) cs.length&&v.ok) with
    | false=>rw[hb]at hf;cases hf
    | true =>
     rw[hb]at hf
     simp only[cond_true]at hf
     simp only[Bool.and_eq_true,beq_iff_eq]at hb
     obtain⟨⟨hb1,hb2⟩,hb3⟩:=hb
     have hb2:=Nat.le_of_ble_eq_true hb2
     obtain⟨g1,g2⟩:=hv.cells hb3
     obtain⟨c1,c2,c3⟩:=hc
     obtain⟨f1,f2⟩:=foldl_set c.cells.toList off 0 vs (by simp;omega)
     have hlen:off+v.cells.length≤cs.length:=by omega
     have hc':PS w M β h (patch cs off v.cells) ((c.cells.toList.zipIdx 0).foldl (fun cs (cj:Value × Nat)=>cs.setIfInBounds (off+cj.2) cj.1) vs):=by
      refine⟨by rw[f1,iG _ _ _ hlen];exact c1,?_,?_⟩
      · intro x hx
        obtain⟨i,hi⟩:=List.mem_iff_getElem?.1 hx
        rw[oV _ _ _ hlen]at hi
        split at hi
        · exact(g2 _ x hi).2.1
        · exact c2 x (List.mem_of_getElem? hi)
      · intro i x hi
        rw[oV _ _ _ hlen]at hi
        rw[f2 i]
        simp only[Nat.add_zero,Array.length_toList,Nat.sub_zero,Array.toArray_toList]at *
        rw[g1]
        split at hi
        · rename_i hh;rw[if_pos hh];exact(g2 _ x hi).1
        · rename_i hh;rw[if_neg hh];exact c3 i x hi
     obtain⟨vs',k1,k2⟩:=KA r cr (patch cs off v.cells) _ cs' hc' (by simpa using hn) (fun i p q h1 h2=>hp (i+1) p q (by simpa using h1) (by simpa using h2)) hf
     refine⟨vs',?_,k2⟩
     rw[← k1]
     simp only[Instr.fill,hpl]
     rw[if_neg (by simp;omega)]
     rw[← Array.foldl_toList]
     simp[Array.toList_zipIdx]
theorem sQ (ok : bP P T) : ∀ (fs : List Field) (i : Nat) (p : Nat × Nat),((fF T fs)[i]?).bind id = some p →
    ∃ f j,fs[i]?=some f∧P.info? f.type=some j∧p=(f.offset,j.size)
  | [],i,p,h=>by simp[fF]at h
  | f::r,0,p,h=>by
   simp[fF]at h
   obtain⟨n,h1,h2⟩:=h
   obtain⟨j,h3,h4⟩:=ok.size h1
   exact⟨f,j,by simp,h3,by rw[← h2,h4]⟩
  | f::r,i+1,p,h=>by
   simp[fF]at h
   obtain⟨f',j,h1,h2,h3⟩:=sQ ok r i p (by simpa using h)
   exact⟨f',j,by simpa using h1,h2,h3⟩
end
end Go.Skm
namespace Go.Skm
section
variable {P:Program} {T:Tab} {w:World} {M:Nat→Prop} {β:Nat→Option (Nat × Nat)} {h:Nat→Option aI}
def KD (w:World) (M:Nat→Prop) (β:Nat→Option (Nat × Nat)) (h:Nat→Option aI) (ps:List (Nat × AV)) (cs:List (Nat × Value)):Prop :=
 ps.length=cs.length∧∀ (i:Nat) (p:Nat × AV) (q:Nat × Value),ps[i]?=some p→cs[i]?=some q→p.1=q.1∧AR w M β h p.2 q.2
theorem nY {t:TypeId} {i:TypeInfo} {v:Value} (h1:P.info? t=some i) (h2:i.zero=some v):(zeroValue t).run P w=.ok v w:=by
 simp[zeroValue,nX h1,h2]
theorem KE {v:Value} {zs:List PV} (hv:ofValue v=some (.agg zs)):PS w M β h (zs.map .p) v.cells:=by
 have:=DU (w:=w) (M:=M) hv
 cases this with
 | agg _ vs hn hl hc =>
  refine⟨by simpa [Value.cells] using hn,fun c hc'=>?_,fun i c hi=>?_⟩
  · obtain⟨y,hy,rfl⟩:=List.mem_map.1 hc'
    exact hl y hy
  · rw[List.getElem?_map]at hi
    cases hy:zs[i]? with
    | none=>rw[hy]at hi;simp at hi
    | some y=>rw[hy]at hi;simp at hi;subst hi;exact .p _ _ (hc i y hy)
theorem Xl (ok : bP P T) {t : TypeId} {ps : List (Nat × AV)} {cs : Array (Nat × Value)} (hp : KD w M β h ps cs.toList) :
    aj P w M β h (Gm T t ps) (Instr.build t cs):=by
  unfold Gm
  split
  · rename_i zs fs hz hu
    obtain⟨i,v,h1,h2,h3⟩:=ok.zero hz
    have hu:=ok.und hu
    refine aj.chk fun hall=>?_
    split
    · rename_i cs' hf
      have hpl:∀ (n:Nat) (p:Nat × Nat),((fF T fs.toList)[n]?).bind id=some p→(fs.map fun f=>(f.offset,((P.info? f.type).map (·.size)).getD 0))[n]?=some p:=by
       intro n p hp
       obtain⟨f,j,g1,g2,g3⟩:=sQ ok fs.toList n p hp
       simp at g1
       simp[g1,g2,g3]
      have hf' : ∀ (parts : List (Nat × AV)) (x : List AV) (y : List AV),Dc (fun i => ((fF T fs.toList)[i]?).bind id) x parts = some y →
          Dc (fun n=>(fs.map fun f=>(f.offset,((P.info? f.type).map (·.size)).getD 0))[n]?) x parts=some y:=by
        intro parts
        induction parts with
        | nil=>intro x y hxy;simpa [Dc] using hxy
        | cons p r ih =>
         intro x y hxy
         obtain⟨n,v⟩:=p
         simp only[Dc]at hxy ⊢
         cases hb:((fF T fs.toList)[n]?).bind id with
         | none=>rw[hb]at hxy;cases hxy
         | some q =>
          rw[hb]at hxy
          rw[hpl n q hb]
          obtain⟨off,size⟩:=q
          simp only at hxy ⊢
          cases hc:(v.cells.length==size&&Nat.ble (off+size) x.length&&v.ok) with
          | false=>rw[hc]at hxy;cases hxy
          | true=>rw[hc]at hxy;simp only[cond_true]at hxy ⊢;exact ih _ _ hxy
      obtain⟨vs',k1,k2⟩:=KA ps cs.toList _ _ cs' (KE h3) hp.1 hp.2 (hf' _ _ _ hf)
      refine aj.ret (AR.zG k2.1 k2.2.1 k2.2.2) ?_
      have hsz:∀ f∈fs.toList,(do pure (f.offset,← sizeOf f.type):Sem (Nat × Nat)).run P w=.ok (f.offset,((P.info? f.type).map (·.size)).getD 0) w:=by
       intro f hf
       obtain⟨n,hn⟩:=List.mem_iff_getElem?.1 hf
       have hq:∃ q,((fF T fs.toList)[n]?).bind id=some q:=by
        have hlen:∀ (l:List Field),(fF T l).length=l.length:=by
         intro l;induction l with
         | nil=>rfl
         | cons x r ih=>simp[fF,ih]
        have hlt:n<(fF T fs.toList).length:=by rw[hlen];exact(List.getElem?_eq_some_iff.1 hn).1
        have:=(List.all_eq_true.1 hall) _ (List.getElem_mem hlt)
        rw[List.getElem?_eq_getElem hlt]
        exact Option.isSome_iff_exists.1 this
       obtain⟨q,hq⟩:=hq
       obtain⟨f',j,g1,g2,g3⟩:=sQ ok fs.toList n q hq
       rw[hn]at g1;cases g1
       simp[fE g2,g2]
      simp only[Instr.build,Sem.run_bind,nY h1 h2,aZ hu,Result.andThen_ok,Zo _ _ fs hsz,k1,Sem.run_pure]
    · exact aj.fail
  · rename_i zs len e hz hu
    obtain⟨i,v,h1,h2,h3⟩:=ok.zero hz
    have hu:=ok.und hu
    split
    · rename_i n hn
      obtain⟨j,g1,g2⟩:=ok.size hn
      split
      · rename_i cs' hf
        obtain⟨vs',k1,k2⟩:=KA ps cs.toList _ _ cs' (KE h3) hp.1 hp.2 hf
        refine aj.ret (AR.zG k2.1 k2.2.1 k2.2.2) ?_
        simp[Instr.build,nY h1 h2,aZ hu,fE g1,g2,k1]
      · exact aj.fail
    · exact aj.fail
  · exact aj.fail
theorem addr_add (b o n:Nat):(⟨b,o,none⟩:Addr).add n=⟨b,o+n,none⟩:=by
 unfold Addr.add
 by_cases h:n=0<;>simp[h]
theorem vH {f:Nat→AV} {i:Int} {sem:Sem Value} (hf:∀ j:Nat,i=(j:Int)→aj P w M β h (.ret { val:=f j }) sem):∀ m j,aj P w M β h (Pz f i m j) sem
 | 0,_=>aj.fail
 | m+1,j=>aj.ite (fun h=>hf j (by simpa using h)) fun _=>vH hf m (j+1)
theorem MO (ok:bP P T) {t:TypeId} {x i:AV} {c d:Value} (hx:AR w M β h x c) (hi:AR w M β h i d):aj P w M β h (wS T t x i) (Instr.indexAt t c d):=by
 unfold wS
 split
 · rename_i k n
   rw[hi.zK]
   split
   · rename_i e hu
     have hu:=ok.und hu
     split
     · exact aj.fail
     · rename_i m hm
       obtain⟨j,g1,g2⟩:=ok.size hm
       have go:∀ (b o len cap:Nat),0≤n→n<(len:Int)→(Instr.indexAt t (.slice (some ⟨b,o,none⟩) len cap) (.int k n)).run P w=.ok (.pointer (some ⟨b,o+n.toNat*m,none⟩)) w:=by
        intro b o len cap h0 h1
        simp[Instr.indexAt,asIntOf,aZ hu,h0,h1,fE g1,g2,addr_add]
       split
       · rename_i s z off len
         refine aj.chk fun hz=>aj.chk fun hb=>?_
         simp only[beq_iff_eq]at hz
         subst hz
         simp only[Bool.and_eq_true,decide_eq_true_eq]at hb
         cases hx with
         | slice s off len a ks xs b o cap q1 q2 q3 q4 q5 =>
          refine aj.ret (c:=.pointer (some ⟨b,o+off*ks.length+n.toNat*ks.length,none⟩)) ?_ (go _ _ _ _ hb.1 hb.2)
          have:=AR.ptrA (w:=w) (M:=M) (β:=β) (h:=h) s (off+n.toNat) 0 a ks xs b o q1 (by omega) q3
          rw[Nat.add_mul]at this
          simpa [Nat.add_assoc] using this
         | sliceE=>omega
       · rename_i s off len
         refine aj.chk fun hz=>aj.chk fun hb=>?_
         simp only[beq_iff_eq]at hz
         subst hz
         simp only[Bool.and_eq_true,decide_eq_true_eq]at hb
         cases hx with
         | bslice s off len cs b o cap q1 q2 q3 q4 =>
          refine aj.ret (c:=.pointer (some ⟨b,o+off+n.toNat*1,none⟩)) ?_ (go _ _ _ _ hb.1 hb.2)
          have:=AR.ptrB (w:=w) (M:=M) (β:=β) (h:=h) s (off+n.toNat) cs b o q1 q3
          simpa [Nat.add_assoc] using this
         | bsliceE=>omega
       · rename_i a ks xs
         refine aj.chk fun hz=>aj.chk fun hb=>?_
         simp only[beq_iff_eq]at hz
         subst hz
         simp only[Bool.and_eq_true,decide_eq_true_eq]at hb
         cases hx with
         | p _ _ hx =>
         cases hx with
         | list _ _ _ b o cap f q1 q2 q3 q4 q5 =>
          have hlt:n.toNat<xs.length:=by omega
          have hget:xs[n.toNat]?=some (xs.getD n.toNat .nil):=by simp[hlt]
          refine aj.ret (c:=.pointer (some ⟨b,o+n.toNat*ks.length,none⟩)) ?_ (go _ _ _ _ hb.1 hb.2)
          exact .mO a ks _ 0 b (o+n.toNat*ks.length) (f n.toNat) q1 (q5 _ (List.mem_of_getElem? hget)) (fun j c hj=>q3 _ _ j c hget hj) (fun j c hj=>q4 _ _ j c hget hj)
         | kD=>simp at hb;omega
       · rename_i a ks xs
         refine aj.chk fun hz=>aj.chk fun hb=>?_
         simp only[beq_iff_eq]at hz
         subst hz
         simp only[Bool.and_eq_true,decide_eq_true_eq]at hb
         cases hx with
         | p _ _ hx =>
         cases hx with
         | full _ _ _ b o f q1 q3 q4 q5 =>
          have hlt:n.toNat<xs.length:=by omega
          have hget:xs[n.toNat]?=some (xs.getD n.toNat .nil):=by simp[hlt]
          refine aj.ret (c:=.pointer (some ⟨b,o+n.toNat*ks.length,none⟩)) ?_ (go _ _ _ _ hb.1 hb.2)
          exact .mO a ks _ 0 b (o+n.toNat*ks.length) (f n.toNat) q1 (q5 _ (List.mem_of_getElem? hget)) (fun j c hj=>q3 _ _ j c hget hj) (fun j c hj=>q4 _ _ j c hget hj)
         | H9=>simp at hb;omega
       · exact aj.fail
   · rename_i len e hu
     have hu:=ok.und hu
     split
     · rename_i s idx off m hm
       obtain⟨j,g1,g2⟩:=ok.size hm
       refine aj.chk fun hb=>?_
       simp only[Bool.and_eq_true,decide_eq_true_eq]at hb
       cases hx with
       | ptrB _ _ cs b o q1 q2 =>
        have one:∀ q:Nat,n=(q:Int)→aj P w M β h (.ret { val:=.ptr s 0 (off+q*m) }) (Instr.indexAt t (.pointer (some ⟨b,o+off,none⟩)) (.int k n)):=by
         intro q hq
         subst hq
         refine aj.ret (c:=.pointer (some ⟨b,o+off+q*m,none⟩)) ?_ ?_
         · rw[Nat.add_assoc];exact .ptrB s _ cs b o q1 q2
         · simp[Instr.indexAt,asIntOf,aZ hu,hb,Instr.sureAddr,fE g1,g2,addr_add]
           intro hle
           omega
        cases Nat.ble len 8 with
        | true=>exact vH one _ _
        | false=>exact one n.toNat (by omega)
       | ptrA _ _ _ a ks xs b o q1 q2 q3 =>
        have one:∀ q:Nat,n=(q:Int)→aj P w M β h (.ret { val:=.ptr s idx (off+q*m) }) (Instr.indexAt t (.pointer (some ⟨b,o+idx*ks.length+off,none⟩)) (.int k n)):=by
         intro q hq
         subst hq
         refine aj.ret (c:=.pointer (some ⟨b,o+idx*ks.length+off+q*m,none⟩)) ?_ ?_
         · rw[Nat.add_assoc];exact .ptrA s idx _ a ks xs b o q1 q2 q3
         · simp[Instr.indexAt,asIntOf,aZ hu,hb,Instr.sureAddr,fE g1,g2,addr_add]
           intro hle
           omega
        cases Nat.ble len 8 with
        | true=>exact vH one _ _
        | false=>exact one n.toNat (by omega)
       | ptrT _ _ t' c0 c1 b q1 q2 =>
        have one:∀ q:Nat,n=(q:Int)→aj P w M β h (.ret { val:=.ptr s 0 (off+q*m) }) (Instr.indexAt t (.pointer (some ⟨b,off,none⟩)) (.int k n)):=by
         intro q hq
         subst hq
         refine aj.ret (c:=.pointer (some ⟨b,off+q*m,none⟩)) ?_ ?_
         · exact .ptrT s _ t' c0 c1 b q1 q2
         · simp[Instr.indexAt,asIntOf,aZ hu,hb,Instr.sureAddr,fE g1,g2,addr_add]
           intro hle
           omega
        cases Nat.ble len 8 with
        | true=>exact vH one _ _
        | false=>exact one n.toNat (by omega)
     · rename_i a ks y off m hm
       obtain⟨j,g1,g2⟩:=ok.size hm
       refine aj.chk fun hb=>?_
       simp only[Bool.and_eq_true,decide_eq_true_eq]at hb
       cases hx with
       | mO _ _ _ _ b o f q1 q2 q3 q4 =>
        refine aj.ret (c:=.pointer (some ⟨b,o+off+n.toNat*m,none⟩)) ?_ ?_
        · rw[Nat.add_assoc];exact .mO a ks y _ b o f q1 q2 q3 q4
        · simp[Instr.indexAt,asIntOf,aZ hu,hb,Instr.sureAddr,fE g1,g2,addr_add]
     · exact aj.fail
   · exact aj.fail
 · exact aj.fail
end
end Go.Skm
namespace Go.Skm
section
variable {P:Program} {T:Tab} {w:World} {M:Nat→Prop} {β:Nat→Option (Nat × Nat)} {h:Nat→Option aI}
def IY (w:World) (M:Nat→Prop) (β:Nat→Option (Nat × Nat)) (h:Nat→Option aI):Option AV→Option Value→Prop
 | none,none=>True
 | some v,some c=>AR w M β h v c
 | _,_=>False
theorem qN {d:Int} {v:AV} {c:Value} {n:Int} (hv:AR w M β h v c) (hb:bound d (some v)=some n):∃ k,c=.int k n:=by
 unfold bound at hb
 split at hb
 · cases ‹some v=none›
 · rename_i k m e
   cases e;cases hb
   exact⟨k,hv.zK⟩
 · cases hb
theorem DX (b : Bool) {len cap : Nat} {lo hi : Option AV} {clo chi : Option Value} {l u : Int} (h1 : IY w M β h lo clo) (h2 : IY w M β h hi chi)
    (e1:bound 0 lo=some l) (e2:bound len hi=some u) (q1:0≤l) (q2:l≤u) (q3:u≤(len:Int)) (q4:len≤cap) :
    (Instr.sliceBounds b len cap clo chi none).run P w=.ok (l.toNat,u.toNat,cap) w:=by
  cases hi with
  | none =>
   cases chi with
   | some c=>exact h2.elim
   | none =>
    simp[bound]at e2;subst e2
    cases lo with
    | none =>
     cases clo with
     | some c=>exact h1.elim
     | none=>simp[bound]at e1;subst e1;simp[Instr.sliceBounds]
    | some v =>
     cases clo with
     | none=>exact h1.elim
     | some c =>
      obtain⟨k,rfl⟩:=qN h1 e1
      simp only[Instr.sliceBounds,Sem.run_bind,Sem.run_pure,Result.andThen_ok,run_sliceBound w k l len _ q1 (by omega)]
      simp
  | some v =>
   cases chi with
   | none=>exact h2.elim
   | some c =>
    obtain⟨k,rfl⟩:=qN h2 e2
    cases lo with
    | none =>
     cases clo with
     | some c=>exact h1.elim
     | none =>
      simp[bound]at e1;subst e1
      simp only[Instr.sliceBounds,Sem.run_bind,Sem.run_pure,Result.andThen_ok,run_sliceBound w k u cap _ q2 (by omega)]
      simp
    | some v =>
     cases clo with
     | none=>exact h1.elim
     | some c =>
      obtain⟨k',rfl⟩:=qN h1 e1
      simp only[Instr.sliceBounds,Sem.run_bind,Sem.run_pure,Result.andThen_ok,run_sliceBound w k u cap _ (by omega) (by omega),run_sliceBound w k' l u.toNat _ q1 (by omega)]
theorem Rj {len cap : Nat} {lo hi : Option AV} {mx : AV} {clo chi : Option Value} {PU : Value} {l u m : Int} (h1 : IY w M β h lo clo) (h2 : IY w M β h hi chi) (h3 : AR w M β h mx PU)
    (e1:bound 0 lo=some l) (e2:bound len hi=some u) (hs:hi.isSome=true) (e3:bound len (some mx)=some m) (q1:0≤l) (q2:l≤u) (q3:u≤m) (q4:m≤(len:Int)) (q5:len≤cap) :
    (Instr.sliceBounds true len cap clo chi (some PU)).run P w=.ok (l.toNat,u.toNat,m.toNat) w:=by
  obtain⟨k,rfl⟩:=qN h3 e3
  cases hi with
  | none=>cases hs
  | some v =>
   cases chi with
   | none=>exact h2.elim
   | some c =>
    obtain⟨k2,rfl⟩:=qN h2 e2
    cases lo with
    | none =>
     cases clo with
     | some c=>exact h1.elim
     | none =>
      simp[bound]at e1;subst e1
      simp only[Instr.sliceBounds,Sem.run_bind,Sem.run_pure,Result.andThen_ok,run_sliceBound w k m cap _ (by omega) (by omega),run_sliceBound w k2 u m.toNat _ q2 (by omega)]
      simp
    | some v =>
     cases clo with
     | none=>exact h1.elim
     | some c =>
      obtain⟨k',rfl⟩:=qN h1 e1
      simp only[Instr.sliceBounds,Sem.run_bind,Sem.run_pure,Result.andThen_ok,run_sliceBound w k m cap _ (by omega) (by omega),run_sliceBound w k2 u m.toNat _ (by omega) (by omega),run_sliceBound w k' l u.toNat _ q1 (by omega)]
theorem KF {_a:Bool} {_ks:List Kd} {xs:List PV} {l u:Nat} (h1:l≤u) (h2:u≤xs.length):((xs.drop l).take (u-l)).length=u-l:=by
 simp;omega
theorem ug {xs:List PV} {l n i:Nat} {x:PV} (h:((xs.drop l).take n)[i]?=some x):xs[l+i]?=some x:=by
 rw[List.getElem?_take]at h
 split at h
 · rwa[List.getElem?_drop]at h
 · cases h
theorem VR.sub {a : Bool} {ks : List Kd} {xs : List PV} {b o _cap cap' : Nat} {f : Nat → Nat → Value} {l u : Nat} (hM : M b)
    (hc:∀ (i:Nat) (x:PV) (j:Nat) (c:PV),xs[i]?=some x→x.cells[j]?=some c→w.cell? ⟨b,o+i*ks.length+j,none⟩=some (f i j))
    (hv:∀ (i:Nat) (x:PV) (j:Nat) (c:PV),xs[i]?=some x→x.cells[j]?=some c→VR w M c (f i j)) (hs:∀ x∈xs,aA a ks x=true)
    (h1:l≤u) (h2:u≤xs.length) (hcap:u-l≤cap'):VR w M (.list a ks ((xs.drop l).take (u-l))) (.slice (some ⟨b,o+l*ks.length,none⟩) (u-l) cap'):=by
  have:=VR.list (w:=w) (M:=M) a ks ((xs.drop l).take (u-l)) b (o+l*ks.length) cap' (fun i j=>f (l+i) j) hM (by rw[KF (_a:=a) (_ks:=ks) h1 h2];exact hcap)
   (fun i x j c hx hj=>by have:=hc (l+i) x j c (ug hx) hj;rw[Nat.add_mul]at this;rw[← this];congr 2;omega)
   (fun i x j c hx hj=>hv (l+i) x j c (ug hx) hj) (fun x hx=>hs x (List.mem_of_mem_drop (List.mem_of_mem_take hx)))
  rwa[KF (_a:=a) (_ks:=ks) h1 h2]at this
theorem VR.ajy {a : Bool} {ks : List Kd} {xs : List PV} {b o : Nat} {f : Nat → Nat → Value} {l u : Nat} (hM : M b)
    (hc:∀ (i:Nat) (x:PV) (j:Nat) (c:PV),xs[i]?=some x→x.cells[j]?=some c→w.cell? ⟨b,o+i*ks.length+j,none⟩=some (f i j))
    (hv:∀ (i:Nat) (x:PV) (j:Nat) (c:PV),xs[i]?=some x→x.cells[j]?=some c→VR w M c (f i j)) (hs:∀ x∈xs,aA a ks x=true)
    (h1:l≤u) (h2:u≤xs.length):VR w M (.full a ks ((xs.drop l).take (u-l))) (.slice (some ⟨b,o+l*ks.length,none⟩) (u-l) (u-l)):=by
  have:=VR.full (w:=w) (M:=M) a ks ((xs.drop l).take (u-l)) b (o+l*ks.length) (fun i j=>f (l+i) j) hM
   (fun i x j c hx hj=>by have:=hc (l+i) x j c (ug hx) hj;rw[Nat.add_mul]at this;rw[← this];congr 2;omega)
   (fun i x j c hx hj=>hv (l+i) x j c (ug hx) hj) (fun x hx=>hs x (List.mem_of_mem_drop (List.mem_of_mem_take hx)))
  rwa[KF (_a:=a) (_ks:=ks) h1 h2]at this
theorem Xm (ok : bP P T) {t : TypeId} {x : AV} {c : Value} {lo hi mx : Option AV} {clo chi PU : Option Value} (hx : AR w M β h x c) (hlo : IY w M β h lo clo) (hhi : IY w M β h hi chi)
    (hmx:IY w M β h mx PU) (hmh:mx.isSome=true→hi.isSome=true):aj P w M β h (Gs T t x lo hi mx) (Instr.sliceAt t c clo chi PU):=by
  unfold Gs
  split
  · rename_i hu
    have hu:=ok.und hu
    split
    · rename_i s
      rw[hx.Kv]
      have:PU=none:=by cases PU with | none=>rfl | some v=>exact hmx.elim
      subst this
      split
      · rename_i l u e1 e2
        refine aj.chk fun hb=>aj.ret (.str _) ?_
        simp only[Bool.and_eq_true,decide_eq_true_eq]at hb
        have:=DX (P:=P) false (len:=s.size) (cap:=s.size) hlo hhi e1 e2 hb.1 hb.2.1 hb.2.2 (Nat.le_refl _)
        simp[Instr.sliceAt,Instr.slice,aZ hu,this]
      · exact aj.fail
    · exact aj.fail
  · rename_i e hu
    have hu:=ok.und hu
    split
    · exact aj.fail
    · rename_i n hn
      obtain⟨j,g1,g2⟩:=ok.size hn
      have go : ∀ (base : Option Addr) (len cap l u m : Nat),(Instr.sliceBounds true len cap clo chi PU).run P w = .ok (l,u,m) w →
          (Instr.sliceAt t (.slice base len cap) clo chi PU).run P w=.ok (.slice (if m=l then base else base.map (·.add (l*n))) (u-l) (m-l)) w:=by
        intro base len cap l u m hb
        simp[Instr.sliceAt,Instr.slice,aZ hu,hb,fE g1,g2]
      have bnd : ∀ (len cap : Nat) (l u m : Int),bound 0 lo = some l → bound len hi = some u → bound len mx = some m → 0 ≤ l → l ≤ u → u ≤ m → m ≤ (len : Int) → len ≤ cap →
          ∃ m':Nat,(Instr.sliceBounds true len cap clo chi PU).run P w=.ok (l.toNat,u.toNat,m') w∧((mx=none∧m'=cap)∨(mx.isSome=true∧m'=m.toNat)):=by
        intro len cap l u m e1 e2 e3 q1 q2 q3 q4 q5
        cases mx with
        | none =>
         have:PU=none:=by cases PU with | none=>rfl | some v=>exact hmx.elim
         subst this
         simp[bound]at e3
         exact⟨cap,DX true hlo hhi e1 e2 q1 q2 (by omega) q5,.inl ⟨rfl,rfl⟩⟩
        | some v =>
         cases PU with
         | none=>exact hmx.elim
         | some c=>exact⟨m.toNat,Rj hlo hhi hmx e1 e2 (hmh rfl) e3 q1 q2 q3 q4 q5,.inr ⟨rfl,rfl⟩⟩
      split
      · rename_i s z off len
        split
        · rename_i l u m e1 e2 e3
          refine aj.chk fun hz=>aj.chk fun hb=>?_
          simp only[beq_iff_eq]at hz;subst hz
          simp only[Bool.and_eq_true,decide_eq_true_eq]at hb
          obtain⟨q1,q2,q3,q4⟩:=hb
          cases hx with
          | slice _ _ _ a ks xs b o cap p1 p2 p3 p4 p5 =>
           obtain⟨m',k1,k2⟩:=bnd len cap l u m e1 e2 e3 q1 q2 q3 q4 p4
           have hm':u.toNat≤m'∧m'≤cap:=by rcases k2 with ⟨_,rfl⟩ | ⟨_,rfl⟩<;>omega
           have e4:(u-l).toNat=u.toNat-l.toNat:=by omega
           rw[e4]
           refine aj.ret ?_ (go _ _ _ _ _ _ k1)
           by_cases hml:m'=l.toNat
           · rw[if_pos hml,show u.toNat-l.toNat=0 from by omega,show m'-l.toNat=0 from by omega]
             exact .sliceE s _ a ks xs _ p1 (by omega)
           · rw[if_neg hml]
             simp only[Option.map_some,addr_add]
             have:=AR.slice (w:=w) (M:=M) (β:=β) (h:=h) s (off+l.toNat) (u.toNat-l.toNat) a ks xs b o (m'-l.toNat) p1 (by omega) p3 (by omega) (p5.mono (by
              refine Nat.add_le_add_left (Nat.mul_le_mul_right _ ?_) _;omega))
             rw[Nat.add_mul,← Nat.add_assoc]at this
             exact this
          | sliceE _ _ a ks xs base p1 p2 =>
           obtain⟨m',k1,k2⟩:=bnd 0 0 l u m e1 e2 e3 q1 q2 q3 q4 (Nat.le_refl _)
           have hm':u.toNat≤m'∧m'≤0:=by rcases k2 with ⟨_,rfl⟩ | ⟨_,rfl⟩<;>omega
           have e4:(u-l).toNat=0:=by omega
           rw[e4]
           have e5:m'=l.toNat:=by omega
           refine aj.ret (AR.sliceE s (off+l.toNat) a ks xs base p1 (by omega)) ?_
           have:=go base 0 0 _ _ _ k1
           rw[if_pos e5,show u.toNat-l.toNat=0 from by omega,show m'-l.toNat=0 from by omega]at this
           exact this
        · exact aj.fail
      · rename_i s off len
        split
        · rename_i l u m e1 e2 e3
          refine aj.chk fun hz=>aj.chk fun hb=>?_
          simp only[beq_iff_eq]at hz;subst hz
          simp only[Bool.and_eq_true,decide_eq_true_eq]at hb
          obtain⟨q1,q2,q3,q4⟩:=hb
          cases hx with
          | bslice _ _ _ cs b o cap p1 p2 p3 p4 =>
           obtain⟨m',k1,k2⟩:=bnd len cap l u m e1 e2 e3 q1 q2 q3 q4 p4
           have hm':u.toNat≤m'∧m'≤cap:=by rcases k2 with ⟨_,rfl⟩ | ⟨_,rfl⟩<;>omega
           have e4:(u-l).toNat=u.toNat-l.toNat:=by omega
           rw[e4]
           refine aj.ret ?_ (go _ _ _ _ _ _ k1)
           by_cases hml:m'=l.toNat
           · rw[if_pos hml,show u.toNat-l.toNat=0 from by omega,show m'-l.toNat=0 from by omega]
             exact .bsliceE s _ cs _ p1 (by omega)
           · rw[if_neg hml]
             simp only[Option.map_some,addr_add,Nat.mul_one]
             have:=AR.bslice (w:=w) (M:=M) (β:=β) (h:=h) s (off+l.toNat) (u.toNat-l.toNat) cs b o (m'-l.toNat) p1 (by omega) p3 (by omega)
             rw[← Nat.add_assoc]at this
             exact this
          | bsliceE _ _ cs base p1 p2 =>
           obtain⟨m',k1,k2⟩:=bnd 0 0 l u m e1 e2 e3 q1 q2 q3 q4 (Nat.le_refl _)
           have hm':u.toNat≤m'∧m'≤0:=by rcases k2 with ⟨_,rfl⟩ | ⟨_,rfl⟩<;>omega
           have e4:(u-l).toNat=0:=by omega
           rw[e4]
           have e5:m'=l.toNat:=by omega
           refine aj.ret (AR.bsliceE s (off+l.toNat) cs base p1 (by omega)) ?_
           have:=go base 0 0 _ _ _ k1
           rw[if_pos e5,show u.toNat-l.toNat=0 from by omega,show m'-l.toNat=0 from by omega]at this
           exact this
        · exact aj.fail
      · rename_i a ks xs
        split
        · rename_i l u m e1 e2 e3
          refine aj.chk fun hz=>aj.chk fun hb=>?_
          simp only[beq_iff_eq]at hz;subst hz
          simp only[Bool.and_eq_true,decide_eq_true_eq]at hb
          obtain⟨q1,q2,q3,q4⟩:=hb
          have e4:(u-l).toNat=u.toNat-l.toNat:=by omega
          rw[e4]
          cases hx with
          | p _ _ hx =>
          have lst : ∃ c',AR w M β h (.p (.list a ks ((xs.drop l.toNat).take (u.toNat - l.toNat)))) c' ∧ (Instr.sliceAt t c clo chi PU).run P w = .ok c' w ∧
              (mx.isSome=true→u=m→AR w M β h (.p (.full a ks ((xs.drop l.toNat).take (u.toNat-l.toNat)))) c'):=by
            cases hx with
            | list _ _ _ b o cap f p1 p2 p3 p4 p5 =>
             obtain⟨m',k1,k2⟩:=bnd xs.length cap l u m e1 e2 e3 q1 q2 q3 q4 p2
             have hm':u.toNat≤m'∧m'≤cap:=by rcases k2 with ⟨_,rfl⟩ | ⟨_,rfl⟩<;>omega
             refine⟨_,?_,go _ _ _ _ _ _ k1,?_⟩
             · by_cases hml:m'=l.toNat
               · have e0:u.toNat-l.toNat=0:=by omega
                 rw[if_pos hml,e0]
                 simp only[List.take_zero]
                 exact .p _ _ (.kD a ks _ _)
               · rw[if_neg hml]
                 simp only[Option.map_some,addr_add]
                 exact .p _ _ (VR.sub (_cap:=cap) p1 p3 p4 p5 (by omega) (by omega) (by omega))
             · intro hs hum
               have e6:m'=u.toNat:=by
                rcases k2 with ⟨h0,_⟩ | ⟨_,h0⟩
                · rw[h0]at hs;cases hs
                · omega
               by_cases hml:m'=l.toNat
               · have e0:u.toNat-l.toNat=0:=by omega
                 rw[if_pos hml,e0,show m'-l.toNat=0 from by omega]
                 simp only[List.take_zero]
                 exact .p _ _ (.H9 a ks _)
               · rw[if_neg hml,e6]
                 simp only[Option.map_some,addr_add]
                 exact .p _ _ (VR.ajy p1 p3 p4 p5 (by omega) (by omega))
            | kD _ _ base cap =>
             obtain⟨m',k1,k2⟩:=bnd 0 cap l u m e1 e2 e3 q1 q2 q3 q4 (Nat.zero_le _)
             have z:l=0∧u=0∧m=0:=by simp at q4;omega
             obtain⟨rfl,rfl,rfl⟩:=z
             refine⟨_,?_,go _ _ _ _ _ _ k1,?_⟩
             · simpa using AR.p _ _ (.kD a ks _ _)
             · intro hs _
               rcases k2 with ⟨h0,_⟩ | ⟨_,h0⟩
               · rw[h0]at hs;cases hs
               · subst h0;simpa using AR.p _ _ (.H9 a ks _)
          obtain⟨c',r1,r2,r3⟩:=lst
          split
          · exact aj.ret r1 r2
          · rename_i v
            exact aj.ite (fun hum=>aj.ret (r3 rfl (by simpa using hum)) r2) (fun _=>aj.ret r1 r2)
        · exact aj.fail
      · split
        · rename_i l u m e1 e2 e3
          refine aj.chk fun hb=>?_
          simp only[Bool.and_eq_true,decide_eq_true_eq]at hb
          obtain⟨rfl,rfl,rfl⟩:=hb
          cases hx with
          | p _ _ hx=>cases hx with
          | nil =>
           obtain⟨m',k1,k2⟩:=bnd 0 0 0 0 0 e1 e2 e3 (by omega) (by omega) (by omega) (by omega) (by omega)
           have hm':m'=0:=by rcases k2 with ⟨_,rfl⟩ | ⟨_,rfl⟩<;>rfl
           subst hm'
           refine aj.ret (.p _ _ .nil) ?_
           have:=go none 0 0 _ _ _ k1
           simpa using this
        · exact aj.fail
      · exact aj.fail
  · exact aj.fail
end
end Go.Skm
namespace Go.Skm
section
variable {P:Program} {T:Tab} {w:World} {M:Nat→Prop} {β:Nat→Option (Nat × Nat)} {h:Nat→Option aI}
theorem PW (ok : bP P T) {h' : Nat → Option aI} (hsub : ∀ s b,h' s = some b → h s = some b) {t e : TypeId} {n : Nat} {x : AV} {c : Value} {lo hi mx : Option AV} {clo chi PU : Option Value}
    (hu:und T t=some (.array n e)) (hx:AR w M β h x c) (hlo:IY w M β h lo clo) (hhi:IY w M β h hi chi) (hmx:IY w M β h mx PU) :
    aj P w M β h (yV T h' n e x lo hi mx) (Instr.sliceAt t c clo chi PU):=by
  have hu:=ok.und hu
  unfold yV
  split
  · rename_i s off hn
    obtain⟨j,g1,g2⟩:=ok.size hn
    have:PU=none:=by cases PU with | none=>rfl | some v=>exact hmx.elim
    subst this
    split
    · rename_i cs hs
      have hs:=hsub _ _ hs
      split
      · rename_i l u e1 e2
        refine aj.chk fun hz=>aj.chk fun hb=>?_
        have hz:=Nat.le_of_ble_eq_true hz
        simp only[Bool.and_eq_true,decide_eq_true_eq]at hb
        obtain⟨q1,q2,q3⟩:=hb
        have e4:(u-l).toNat=u.toNat-l.toNat:=by omega
        rw[e4]
        have k1:=DX (P:=P) false (len:=n) (cap:=n) hlo hhi e1 e2 q1 q2 q3 (Nat.le_refl _)
        cases hx with
        | ptrB _ _ cs' b o p1 p2 =>
         rw[hs]at p1;cases p1
         refine aj.ret (c:=.slice (if n=l.toNat then some ⟨b,o+off,none⟩ else some ((⟨b,o+off,none⟩:Addr).add (l.toNat*1))) (u.toNat-l.toNat) (n-l.toNat)) ?_ ?_
         · by_cases hml:n=l.toNat
           · rw[if_pos hml,show u.toNat-l.toNat=0 from by omega,show n-l.toNat=0 from by omega]
             exact .bsliceE s _ cs _ hs (by omega)
           · rw[if_neg hml,addr_add,Nat.mul_one]
             have:=AR.bslice (w:=w) (M:=M) (β:=β) (h:=h) s (off+l.toNat) (u.toNat-l.toNat) cs b o (n-l.toNat) hs (by omega) p2 (by omega)
             rw[← Nat.add_assoc]at this
             exact this
         · have:(Instr.sureAddr (.pointer (some ⟨b,o+off,none⟩))).run P w=.ok ⟨b,o+off,none⟩ w:=rfl
           simp only[Instr.sliceAt,Sem.run_bind,aZ hu,Result.andThen_ok,this,k1,fE g1,g2,Sem.run_pure]
           by_cases hml:n=l.toNat<;>simp[hml]
        | ptrA _ _ _ a ks xs b o p1 p2 p3=>rw[hs]at p1;cases p1
        | ptrT _ _ _ _ _ b p1 p2=>rw[hs]at p1;cases p1
      · exact aj.fail
    · exact aj.fail
  · exact aj.fail
theorem Xn (ok:bP P T) {t:TypeId} {x i:AV} {c d:Value} (hx:AR w M β h x c) (hi:AR w M β h i d):aj P w M β h (Gq T t x i) (Instr.index t c d):=by
 unfold Gq
 split
 · rename_i k n
   rw[hi.zK]
   split
   · rename_i s hu
     have hu:=ok.und hu
     rw[hx.Kv]
     refine aj.chk fun hb=>?_
     simp only[Bool.and_eq_true,decide_eq_true_eq]at hb
     have hlt:n.toNat<s.size:=by omega
     refine aj.ret (.int _ _) ?_
     have h1:(if 0≤n then s[n.toNat]? else none)=some s[n.toNat]:=by
      rw[if_pos hb.1];exact getElem?_pos s n.toNat hlt
     have h2:s.data.getD n.toNat 0=s[n.toNat]:=by
      have:n.toNat<s.data.size:=hlt
      unfold Array.getD
      rw[dif_pos this];rfl
     simp only[Instr.index,asIntOf,Sem.run_bind,Sem.run_pure,Result.andThen_ok,aZ hu,h1,h2]
   · rename_i m e cs hu
     have hu:=ok.und hu
     split
     · rename_i kd hsh hsz
       refine aj.chk fun h1=>aj.chk fun hb=>?_
       simp only[Bool.and_eq_true,decide_eq_true_eq]at hb h1
       obtain⟨⟨a1,a2⟩,a3⟩:=h1
       have a2:=Nat.eq_of_beq_eq_true a2
       cases hx with
       | p _ _ hx=>cases hx with
       | agg _ vs hn hl hc =>
        have hlt:n.toNat<cs.length:=by omega
        have hget:cs[n.toNat]?=some (cs.getD n.toNat .nil):=by simp[hlt]
        have hk:kindOk kd (cs.getD n.toNat .nil)=true:=(List.all_eq_true.1 a1) _ (List.mem_of_getElem? hget)
        refine aj.ret (.p _ _ (xg hk (hc _ _ hget))) ?_
        obtain⟨j,q1,q2⟩:=ok.size hsz
        obtain⟨dd,hdd⟩:=ok.Xj hsz
        have hag:tY P e=false:=by rw[← ok.agg hsz];simpa using a3
        have aeG:vs[n.toNat]?=some (vs.getD n.toNat undef):=getD_some (by omega)
        simp only[Instr.index,asIntOf,Sem.run_bind,Sem.run_pure,Result.andThen_ok,aZ hu]
        rw[if_pos ⟨hb.1,hb.2⟩]
        simp only[Sem.run_bind,fE q1,q2,Result.andThen_ok,Nat.mul_one,part,kU hdd,hag,Bool.false_eq_true,if_false,aeG,Sem.run_pure]
     · rename_i m' hsz _
       refine aj.chk fun h1=>aj.chk fun hb=>?_
       simp only[Bool.and_eq_true,decide_eq_true_eq]at hb h1
       cases hx with
       | p _ _ hx=>cases hx with
       | agg _ vs hn hl hc =>
        refine vH (fun j hj=>?_) _ _
        have hjm:j<m:=by omega
        obtain⟨v,hv⟩:=Option.isSome_iff_exists.1 ((List.all_eq_true.1 h1.2) j (by simp[hjm]))
        obtain⟨q1,q2,q3⟩:=ok.size hsz
        obtain⟨c,g1,g2⟩:=Kz (w:=w) (M:=M) (β:=β) (h:=h) ok hsz hv (by simpa using hn) (fun c hc'=>by
         obtain⟨y,hy,rfl⟩:=List.mem_map.1 hc'
         exact hl y hy) (fun i c hi=>by
         rw[List.getElem?_map]at hi
         cases hp:cs[i]? with
         | none=>rw[hp]at hi;cases hi
         | some y =>
          rw[hp]at hi
          simp only[Option.map_some,Option.some.injEq]at hi
          subst hi
          exact .p _ _ (hc i y hp)) (ok.Xj hsz)
        rw[hv]
        refine aj.ret g1 ?_
        simp only[Instr.index,asIntOf,Sem.run_bind,Sem.run_pure,Result.andThen_ok,aZ hu]
        rw[if_pos ⟨hb.1,hb.2⟩]
        simp only[Sem.run_bind,fE q2,q3,Result.andThen_ok]
        rw[show n.toNat=j by omega]
        exact g2
     · exact aj.fail
   · exact aj.fail
 · exact aj.fail
theorem uh {b o n:Nat} {f:Nat→Value} (hc:∀ j,j<n→w.cell? ⟨b,o+j,none⟩=some (f j)):(loadCells ⟨b,o,none⟩ n).run P w=.ok (Array.ofFn fun (i:Fin n)=>f i) w:=by
 have:=run_loadCells w (P:=P) ⟨b,o,none⟩ n f (fun j hj=>by rw[addr_add];exact hc j hj)
 rw[this]
 congr 1
 apply Array.ext
 · simp
 · intro i h1 h2;simp
theorem oW:∀ (ks:List Kd) (x:PV) (o j:Nat),(eF ks x o)[j]?=(ks[j]?).map fun k=>eta k (x.cell (o+j))
 | [],x,o,j=>by simp[eF]
 | k::ks,x,o,0=>by simp[eF]
 | k::ks,x,o,j+1=>by simp[eF,oW ks x (o+1) j,Nat.add_assoc,Nat.add_comm 1 j]
theorem NV (ok : bP P T) {t : TypeId} {n : Nat} {a : Bool} {ks : List Kd} {x v : PV} {off b o : Nat} {f : Nat → Value} (hn : mP T t = some n) (hv : Py T t n a ks x off = some v) (hx : aA a ks x = true)
    (hc:∀ (j:Nat) (c:PV),x.cells[j]?=some c→w.cell? ⟨b,o+j,none⟩=some (f j)) (hr:∀ (j:Nat) (c:PV),x.cells[j]?=some c→VR w M c (f j)) :
    ∃ c,VR w M v c∧(loadVar t ⟨b,o+off,none⟩).run P w=.ok c w:=by
  obtain⟨i,hi,hsz⟩:=ok.size hn
  obtain⟨d,hd⟩:=ok.Xj hn
  unfold Py at hv
  cases h1:Nat.ble (off+n) ks.length with
  | false=>rw[h1]at hv;cases hv
  | true =>
   have h1':=Nat.le_of_ble_eq_true h1
   rw[h1,ok.agg hn]at hv
   simp only[cond_true]at hv
   cases h2:tY P t with
   | true =>
    rw[h2]at hv
    simp only[cond_true]at hv
    cases a with
    | false=>cases hv
    | true =>
     simp only[cond_true,Option.some.injEq]at hv
     subst hv
     have hlen:(eF ((ks.drop off).take n) x off).length=n:=by
      have:∀ (l:List Kd) (y:PV) (o:Nat),(eF l y o).length=l.length:=by
       intro l;induction l with
       | nil=>intros;rfl
       | cons k r ih=>intro y o;simp[eF,ih]
      rw[this];simp;omega
     have cell:∀ j,j<n→∃ k c,ks[off+j]?=some k∧x.cells[off+j]?=some c∧kindOk k c=true∧x.cell (off+j)=c:=by
      intro j hj
      have hk:ks[off+j]?=some (ks[off+j]'(by omega)):=by simp
      obtain⟨c,g1,g2,g3⟩:=ql hx hk
      exact⟨_,c,hk,g1,g2,g3⟩
     refine⟨.agg (Array.ofFn fun (i:Fin n)=>f (off+i)),.agg _ _ (by simp[hlen]) ?_ ?_,?_⟩
     · intro c hc'
       obtain⟨j,hj⟩:=List.mem_iff_getElem?.1 hc'
       rw[oW]at hj
       have hjn:j<n:=by
        have:(((ks.drop off).take n)[j]?).isSome:=by
         cases h:((ks.drop off).take n)[j]? with
         | none=>rw[h]at hj;simp at hj
         | some _=>rfl
        have:=(List.getElem?_eq_some_iff.1 (Option.isSome_iff_exists.1 this).choose_spec).1
        simp at this;omega
       obtain⟨k,c0,g1,g2,g3,g4⟩:=cell j hjn
       rw[List.getElem?_take,if_pos hjn,List.getElem?_drop,g1]at hj
       simp only[Option.map_some,Option.some.injEq]at hj
       rw[← hj,g4];exact EY g3
     · intro j c hj
       rw[oW]at hj
       have hjn:j<n:=by
        have:(((ks.drop off).take n)[j]?).isSome:=by
         cases h:((ks.drop off).take n)[j]? with
         | none=>rw[h]at hj;simp at hj
         | some _=>rfl
        have:=(List.getElem?_eq_some_iff.1 (Option.isSome_iff_exists.1 this).choose_spec).1
        simp at this;omega
       obtain⟨k,c0,g1,g2,g3,g4⟩:=cell j hjn
       rw[List.getElem?_take,if_pos hjn,List.getElem?_drop,g1]at hj
       simp only[Option.map_some,Option.some.injEq]at hj
       rw[← hj,g4]
       have:(Array.ofFn fun (i:Fin n)=>f (off+i)).getD j undef=f (off+j):=by simp[hjn]
       rw[this]
       exact xg g3 (hr _ _ g2)
     · have := uh (P := P) (w := w) (b := b) (o := o + off) (n := n) (f := fun j => f (off + j)) (fun j hj => by
         obtain⟨k,c0,g1,g2,g3,g4⟩:=cell j hj
         rw[Nat.add_assoc];exact hc _ _ g2)
       simp only[loadVar,Sem.run_bind,kU hd,h2,Result.andThen_ok,if_true,fE hi,hsz,this,Sem.run_pure]
   | false =>
    rw[h2]at hv
    simp only[cond_false]at hv
    cases h3:Nat.beq n 1 with
    | false=>rw[h3]at hv;cases hv
    | true =>
     have h3:=Nat.eq_of_beq_eq_true h3
     subst h3
     cases hk:ks[off]? with
     | none=>simp at hk;omega
     | some k =>
      have:(ks.drop off).head?=some k:=by rw[List.head?_drop];exact hk
      rw[this]at hv
      simp only[show Nat.beq 1 1=true from rfl,cond_true,Option.some.injEq]at hv
      subst hv
      obtain⟨c,g1,g2,g3⟩:=ql hx hk
      refine⟨f off,by rw[g3];exact xg g2 (hr _ _ g1),?_⟩
      simp only[loadVar,Sem.run_bind,kU hd,h2,Result.andThen_ok,Bool.false_eq_true,if_false]
      simp[hc _ _ g1]
end
end Go.Skm
namespace Go.Skm
section
variable {P:Program} {T:Tab} {w:World} {M:Nat→Prop} {β:Nat→Option (Nat × Nat)} {h:Nat→Option aI}
theorem uj {b i:Nat} {C:Array Value} {e:TypeId} {fr:Nat × Nat} (hw:w.heap[b]?=some (.cells C e fr)) (hi:i<C.size):w.cell? ⟨b,i,none⟩=some (C.getD i undef):=by
 simp only[World.cell?,hw]
 simpa using getD_some hi
theorem Rk (ok : bP P T) {h' : Nat → Option aI} (hsub : ∀ s b,h' s = some b → h s = some b) (hh : ∀ s b,h s = some b → BR w M β h s b) {t : TypeId} {x : AV} {c : Value}
    (hx:AR w M β h x c):aj P w M β h (AB T h' t x) (Instr.loadAt t c):=by
  unfold AB
  split
  · exact aj.fail
  · rename_i n hn
    obtain⟨i,hi,hsz⟩:=ok.size hn
    obtain⟨d,hd⟩:=ok.Xj hn
    have at_:∀ (a:Addr) (v:Value),(loadVar t a).run P w=.ok v w→(Instr.loadAt t (.pointer (some a))).run P w=.ok v w:=by
     intro a v h1
     simp[Instr.loadAt,Instr.sureAddr,h1]
    split
    · rename_i s idx off
      split
      · rename_i cs hs
        have hs:=hsub _ _ hs
        cases hx with
        | ptrA _ _ _ a ks xs b o p1 p2 p3=>rw[hs]at p1;cases p1
        | ptrT _ _ _ _ _ b p1 p2=>rw[hs]at p1;cases p1
        | ptrB _ _ cs' b o p1 p2 =>
         split
         · rename_i v hv
           obtain⟨r1,r2⟩:=DW ok hn hv
           cases hh s _ hs with
           | box _ b' o' C e fr g1 g2 g3 g4 g5 g6 =>
            rw[p2]at g1;cases g1
            have cell:∀ j,j<cs.length→w.cell? ⟨b,o+j,none⟩=some (C.getD (o+j) undef):=fun j hj=>uj g2 (by omega)
            rcases r2 with ⟨r2,rfl⟩ | ⟨r2,rfl,rfl⟩
            · refine aj.ret (c:=.agg (Array.ofFn fun (i:Fin n)=>C.getD (o+off+i) undef)) (AR.zG ?_ ?_ ?_) (at_ _ _ ?_)
              · simp;omega
              · intro c hc
                exact g5 c (List.mem_of_mem_drop (List.mem_of_mem_take hc))
              · intro j c hj
                have hjn:j<n:=by
                 have:=(List.getElem?_eq_some_iff.1 hj).1
                 simp at this;omega
                rw[List.getElem?_take,if_pos hjn,List.getElem?_drop]at hj
                have e1:(Array.ofFn fun (i:Fin n)=>C.getD (o+off+i) undef).getD j undef=C.getD (o+(off+j)) undef:=by
                 rw[← Nat.add_assoc]
                 unfold Array.getD
                 rw[dif_pos (by simpa using hjn)]
                 simp
                rw[e1]
                exact g6 _ _ hj
              · have := uh (P := P) (w := w) (b := b) (o := o + off) (n := n) (f := fun j => C.getD (o + off + j) undef) (fun j hj => by
                  have:=cell (off+j) (by omega)
                  rw[← Nat.add_assoc]at this;exact this)
                simp only[loadVar,Sem.run_bind,kU hd,r2,Result.andThen_ok,if_true,fE hi,hsz,this,Sem.run_pure]
            · have hoff:off<cs.length:=by omega
              refine aj.ret (g6 off _ (by simp[hoff])) (at_ _ _ ?_)
              simp only[loadVar,Sem.run_bind,kU hd,r2,Result.andThen_ok,Bool.false_eq_true,if_false]
              simp only[run_load,cell off hoff]
         · exact aj.fail
      · rename_i a ks xs hs
        have hs:=hsub _ _ hs
        cases hx with
        | ptrB _ _ cs' b o p1 p2=>rw[hs]at p1;cases p1
        | ptrT _ _ _ _ _ b p1 p2=>rw[hs]at p1;cases p1
        | ptrA _ _ _ a' ks' xs' b o p1 p2 p3 =>
         rw[hs]at p1;cases p1
         split
         · rename_i v hv
           have hget:xs[idx]?=some (xs.getD idx .nil):=by simp[p2]
           cases hh s _ hs with
           | fM=>simp at p2
           | arr _ _ _ b' o' C e fr g1 g2 g3 g4 g5 g6 =>
            rw[p3]at g1;cases g1
            have hshape:=g5 _ (List.mem_of_getElem? hget)
            have hlen:=bY hshape
            obtain⟨c,k1,k2⟩:=NV (P:=P) (w:=w) (M:=M) ok (b:=b) (o:=o+idx*ks.length) (f:=fun j=>C.getD (o+idx*ks.length+j) undef) hn hv hshape
             (fun j c hj=>by
               have hj':j<ks.length:=by
                have:=(List.getElem?_eq_some_iff.1 hj).1
                omega
               have:(idx+1)*ks.length≤xs.length*ks.length:=Nat.mul_le_mul_right _ p2
               rw[Nat.add_mul]at this
               exact uj g2 (by omega))
             (fun j c hj=>g6 _ _ _ _ hget hj)
            exact aj.ret (.p _ _ k1) (at_ _ _ k2)
         · exact aj.fail
      · exact aj.fail
    · rename_i a ks x off
      split
      · rename_i v hv
        cases hx with
        | mO _ _ _ _ b o f q1 q2 q3 q4 =>
         obtain⟨c,k1,k2⟩:=NV (P:=P) (w:=w) (M:=M) ok hn hv q2 q3 q4
         exact aj.ret (.p _ _ k1) (at_ _ _ k2)
      · exact aj.fail
    · rename_i cs
      split
      · rename_i v hv
        obtain⟨r1,r2⟩:=DW ok hn hv
        simp only[List.length_map,Nat.zero_add]at r1
        cases hx with
        | p _ _ hx=>cases hx with
        | ref _ b o f q1 q2 q3 q4 =>
         have cell:∀ j,j<cs.length→w.cell? ⟨b,o+j,none⟩=some (f j):=fun j hj=>q3 j _ (List.getElem?_eq_getElem hj)
         rcases r2 with ⟨r2,rfl⟩ | ⟨r2,rfl,rfl⟩
         · refine aj.ret (c:=.agg (Array.ofFn fun (i:Fin n)=>f i)) (AR.zG ?_ ?_ ?_) (at_ _ _ ?_)
           · simp;omega
           · intro c hc
             have:=List.mem_of_mem_drop (List.mem_of_mem_take hc)
             obtain⟨y,hy,rfl⟩:=List.mem_map.1 this
             exact q2 y hy
           · intro j c hj
             have hjn:j<n:=by
              have:=(List.getElem?_eq_some_iff.1 hj).1
              simp at this;omega
             rw[List.getElem?_take,if_pos hjn,List.getElem?_drop,Nat.zero_add,List.getElem?_map]at hj
             have e1:(Array.ofFn fun (i:Fin n)=>f i).getD j undef=f j:=by
              unfold Array.getD
              rw[dif_pos (by simpa using hjn)]
              simp
             rw[e1]
             cases hy:cs[j]? with
             | none=>rw[hy]at hj;simp at hj
             | some y=>rw[hy]at hj;simp at hj;subst hj;exact .p _ _ (q4 j y hy)
           · have:=uh (P:=P) (w:=w) (b:=b) (o:=o) (n:=n) (f:=f) (fun j hj=>cell j (by omega))
             simp only[loadVar,Sem.run_bind,kU hd,r2,Result.andThen_ok,if_true,fE hi,hsz,this,Sem.run_pure]
         · have h0:0<cs.length:=by omega
           have hg:cs[0]?=some cs[0]:=List.getElem?_eq_getElem h0
           have e1:(cs.map AV.p).getD 0 .undef=.p cs[0]:=by simp[List.getD,hg]
           refine aj.ret (c:=f 0) (by rw[e1];exact .p _ _ (q4 0 _ hg)) (at_ _ _ ?_)
           have:=cell 0 h0
           simp only[Nat.add_zero]at this
           simp only[loadVar,Sem.run_bind,kU hd,r2,Result.andThen_ok,Bool.false_eq_true,if_false]
           simp only[run_load,this]
      · exact aj.fail
    · exact aj.fail
theorem aaZ (ok : bP P T) {h' : Nat → Option aI} (hsub : ∀ s b,h' s = some b → h s = some b) (hh : ∀ s blk,h s = some blk → BR w M β h s blk) {t : TypeId} {x : AV} {c : Value} {ts : Array TypeId} {ty : TypeId} (ht : ts[0]? = some t) (hx : AR w M β h x c) :
    aj P w M β h (BL T h' t x) (Builtin.len_ ts ty #[c]):=by
  unfold BL
  split
  · rename_i kt et s hu
    have hu:=ok.und hu
    split
    · rename_i u es hl0
      have hl:=hsub _ _ hl0
      cases hx with
      | Kt _ _ _ _ _ g1=>rw[hl]at g1;cases g1
      | AU _ _ g1=>rw[hl]at g1;cases g1
      | Kr _ u' es' b o g1 g2 =>
       cases hh _ _ hl with
       | mp _ _ b' o' E k k1 k2 k3 k4 =>
        rw[g2]at k1;cases k1
        have hg:(getObj b).run P w=.ok (.map E k) w:=by simp[getObj,Sem.run,k2]
        refine aj.ret (.int _ _) ?_
        unfold Builtin.len_
        simp only[ht,show (#[Value.map (some b)]:Array Value)[0]?=some (.map (some b)) from rfl,Sem.run_bind,aZ hu,Result.andThen_ok,hg,Sem.run_pure,goInt,k3.1]
    · exact aj.fail
  · rename_i s hu
    rw[hx.Kv]
    exact aj.ret (.int _ _) (by simp[Builtin.len_,ht,aZ (ok.und hu),goInt])
  · rename_i e s z off len hu
    have hu:=ok.und hu
    cases hx with
    | slice=>exact aj.ret (.int _ _) (by simp[Builtin.len_,ht,aZ hu,goInt])
    | sliceE=>exact aj.ret (.int _ _) (by simp[Builtin.len_,ht,aZ hu,goInt])
  · rename_i e s off len hu
    have hu:=ok.und hu
    cases hx with
    | bslice=>exact aj.ret (.int _ _) (by simp[Builtin.len_,ht,aZ hu,goInt])
    | bsliceE=>exact aj.ret (.int _ _) (by simp[Builtin.len_,ht,aZ hu,goInt])
  · rename_i e a ks xs hu
    have hu:=ok.und hu
    cases hx with
    | p _ _ hx=>cases hx with
    | list=>exact aj.ret (.int _ _) (by simp[Builtin.len_,ht,aZ hu,goInt])
    | kD=>exact aj.ret (.int _ _) (by simp[Builtin.len_,ht,aZ hu,goInt])
  · rename_i e a ks xs hu
    have hu:=ok.und hu
    cases hx with
    | p _ _ hx=>cases hx with
    | full=>exact aj.ret (.int _ _) (by simp[Builtin.len_,ht,aZ hu,goInt])
    | H9=>exact aj.ret (.int _ _) (by simp[Builtin.len_,ht,aZ hu,goInt])
  · rename_i e hu
    have hu:=ok.und hu
    cases hx with
    | p _ _ hx=>cases hx with
    | nil=>exact aj.ret (.int _ _) (by simp[Builtin.len_,ht,aZ hu,goInt])
  · rename_i n e hu
    have hu:=ok.und hu
    refine aj.ret (.int _ _) ?_
    cases c<;>simp[Builtin.len_,ht,aZ hu,goInt]
  · exact aj.fail
def kW (w:World) (M:Nat→Prop) (β:Nat→Option (Nat × Nat)) (h:Nat→Option aI) (xs:List AV) (cs:List Value):Prop :=
 xs.length=cs.length∧∀ (i:Nat) (x:AV) (c:Value),xs[i]?=some x→cs[i]?=some c→AR w M β h x c
theorem kW.cons {x:AV} {xs:List AV} {c:Value} {cs:List Value} (hl:kW w M β h (x::xs) (c::cs)):AR w M β h x c∧kW w M β h xs cs :=
 ⟨hl.2 0 x c rfl rfl,by simpa using hl.1,fun i y d h1 h2=>hl.2 (i+1) y d (by simpa using h1) (by simpa using h2)⟩
theorem Rl {g : Value → Value → Sem Value} {f : Int → Int → Int} {j : IntKind} (hg : ∀ x y,(g (.int j x) (.int j y)).run P w = .ok (.int j (f x y)) w) :
    ∀ (xs:List AV) (cs:List Value) (x y:Int),kW w M β h xs cs→Q5 f j x xs=some y→(cs.foldlM g (.int j x)).run P w=.ok (.int j y) w
  | [],[],x,y,_,hf=>by simp[Q5]at hf;subst hf;simp
  | [],c::cs,x,y,hl,hf=>by have:=hl.1;simp at this
  | v::r,[],x,y,hl,hf=>by have:=hl.1;simp at this
  | v::r,c::cs,x,y,hl,hf=>by
   obtain⟨h1,h2⟩:=hl.cons
   unfold Q5 at hf
   split at hf
   · cases ‹v::r=[]›
   · rename_i i z r' e
     cases e
     cases hij:(i==j) with
     | false=>rw[hij]at hf;cases hf
     | true =>
      rw[hij]at hf
      simp only[cond_true]at hf
      have:i=j:=by simpa using hij
      subst this
      rw[h1.zK]
      simp only[List.foldlM_cons,Sem.run_bind,hg,Result.andThen_ok]
      exact Rl hg r cs _ y h2 hf
   · cases hf
theorem KG {f : Int → Int → Int} {g : Value → Value → Sem Value} {s0 : Sem Value} {xs : List AV} {cs : Array Value} (hl : kW w M β h xs cs.toList) (hg : ∀ j x y,(g (.int j x) (.int j y)).run P w = .ok (.int j (f x y)) w) :
    aj P w M β h (yY f xs) (match cs.toList with
     | []=>s0
     | x::rest=>rest.foldlM g x):=by
  unfold yY
  split
  · rename_i j x r
    cases hc:cs.toList with
    | nil=>rw[hc]at hl;have:=hl.1;simp at this
    | cons c r' =>
     rw[hc]at hl
     obtain⟨h1,h2⟩:=hl.cons
     rw[h1.zK]
     split
     · rename_i y hy
       exact aj.ret (.int _ _) (Rl (hg j) r r' x y h2 hy)
     · exact aj.fail
  · exact aj.fail
end
end Go.Skm
namespace Go.Skm
section
variable {P:Program} {T:Tab} {w:World} {M:Nat→Prop} {β:Nat→Option (Nat × Nat)} {h:Nat→Option aI}
def aY (M:Nat→Prop) (β:Nat→Option (Nat × Nat)) (ss:List Nat) (b:Nat):Prop:=M b∨∃ s o,s∈ss∧β s=some (b,o)
theorem VR.plus {v:PV} {c:Value} (hv:VR w M v c) (ss:List Nat):VR w (aY M β ss) v c:=hv.mono fun _ hb=>⟨.inl hb,rfl⟩
theorem VR.more {v:PV} {c:Value} {ss tt:List Nat} (hst:∀ s∈ss,s∈tt) (hv:VR w (aY M β ss) v c):VR w (aY M β tt) v c :=
 hv.mono fun _ hb=>⟨hb.imp id fun ⟨s,o,h1,h2⟩=>⟨s,o,hst s h1,h2⟩,rfl⟩
theorem Zp {s b o : Nat} {a : Bool} {ks : List Kd} {xs : List PV} {off len cap : Nat} {ss : List Nat} (hb : BR w M β h s (.arr a ks xs)) (nP : β s = some (b,o)) (hs : s ∈ ss) (hl : off + len ≤ xs.length) (hc : len ≤ cap) :
    VR w (aY M β ss) (.list a ks ((xs.drop off).take len)) (.slice (some ⟨b,o+off*ks.length,none⟩) len cap):=by
  cases hb with
  | fM =>
   have h0:len=0:=by simp at hl;omega
   subst h0
   simpa using VR.kD a ks (some ⟨b,o+off*ks.length,none⟩) cap
  | arr _ _ _ b' o' C e fr g1 g2 g3 g4 g5 g6 =>
   rw[nP]at g1;cases g1
   have key:=VR.sub (w:=w) (M:=aY M β ss) (a:=a) (ks:=ks) (xs:=xs) (b:=b) (o:=o) (_cap:=cap) (cap':=cap) (f:=fun i j=>C.getD (o+i*ks.length+j) undef) (l:=off) (u:=off+len)
    (.inr ⟨s,o,hs,nP⟩)
    (fun i x j c hx hj=>by
      have hi:=(List.getElem?_eq_some_iff.1 hx).1
      have hj':j<ks.length:=by
       have:=bY (g5 x (List.mem_of_getElem? hx))
       have:=(List.getElem?_eq_some_iff.1 hj).1
       omega
      have:(i+1)*ks.length≤xs.length*ks.length:=Nat.mul_le_mul_right _ hi
      rw[Nat.add_mul]at this
      exact uj g2 (by omega))
    (fun i x j c hx hj=>(g6 i x j c hx hj).plus ss) g5 (by omega) hl (by omega)
   rw[show off+len-off=len from by omega]at key
   exact key
theorem KH {cs:List AV} {kd:Kd} {vs:List PV} (hb:EM cs=some (kd,vs)):cs=vs.map .p∧∀ v∈vs,kindOk kd v=true:=by
 unfold EM at hb
 split at hb
 · rename_i v r hp
   cases ha:(v::r).all (kindOk (Uc v)) with
   | false=>rw[ha]at hb;cases hb
   | true =>
    rw[ha]at hb
    simp only[cond_true,Option.some.injEq,Prod.mk.injEq]at hb
    obtain⟨rfl,rfl⟩:=hb
    exact⟨qp hp,fun x hx=>(List.all_eq_true.1 ha) x hx⟩
 · cases hb
theorem Zq {s b o : Nat} {cs : List AV} {kd : Kd} {vs : List PV} {off len cap : Nat} {ss : List Nat} (hb : BR w M β h s (.box cs)) (nP : β s = some (b,o)) (hs : s ∈ ss) (hv : EM cs = some (kd,vs))
    (hl:off+cap≤cs.length) (hc:len≤cap):VR w (aY M β ss) (.list false [kd] ((vs.drop off).take len)) (.slice (some ⟨b,o+off,none⟩) len cap):=by
  obtain⟨e1,e2⟩:=KH hv
  subst e1
  simp only[List.length_map]at hl
  cases hb with
  | box _ b' o' C e fr g1 g2 g3 g4 g5 g6 =>
   rw[nP]at g1;cases g1
   simp only[List.length_map]at g3
   have leaf:∀ v∈vs,v.cells=[v]:=fun v hv=>by
    have:=iL (e2 v hv)
    cases v<;>first | rfl | simp[PV.leaf]at this
   have get:∀ (i:Nat) (x:PV),vs[i]?=some x→VR w M x (C.getD (o+i) undef):=fun i x hx=>by
    have:=g6 i (.p x) (by simp[hx])
    cases this;assumption
   have key:=VR.sub (w:=w) (M:=aY M β ss) (a:=false) (ks:=[kd]) (xs:=vs) (b:=b) (o:=o) (_cap:=cap) (cap':=cap) (f:=fun i j=>C.getD (o+i) undef) (l:=off) (u:=off+len)
    (.inr ⟨s,o,hs,nP⟩)
    (fun i x j c hx hj=>by
      have hi:=(List.getElem?_eq_some_iff.1 hx).1
      rw[leaf x (List.mem_of_getElem? hx)]at hj
      have hj0:j=0:=by
       have:=(List.getElem?_eq_some_iff.1 hj).1
       simpa using this
      subst hj0
      simpa using uj g2 (i:=o+i) (by omega))
    (fun i x j c hx hj=>by
      rw[leaf x (List.mem_of_getElem? hx)]at hj
      have hj0:j=0:=by
       have:=(List.getElem?_eq_some_iff.1 hj).1
       simpa using this
      subst hj0
      simp at hj;subst hj
      exact(get i x hx).plus ss)
    (fun x hx=>by simpa [aA] using e2 x hx) (by omega) (by omega) (by omega)
   rw[show off+len-off=len from by omega]at key
   simpa using key
theorem Rn {h' : Nat → Option aI} (hh : ∀ s b,h' s = some b → BR w M β h s b) (hsub : ∀ s b,h' s = some b → h s = some b) {v : AV} {x : PV} {ss : List Nat} {c : Value} (hd : HY h' v = some (x,ss)) (hv : AR w M β h v c) :
    VR w (aY M β ss) x c∧(v.leaf=true→x.leaf=true)∧∀ s∈ss,(h s).isSome=true:=by
  unfold HY at hd
  split at hd
  · cases hd
    cases hv with
    | p _ _ hv=>exact⟨hv.plus [],fun h=>h,fun s hs=>by simp at hs⟩
  · rename_i s z off len
    split at hd
    · rename_i a ks xs hs
      have hs0:=hs
      have hs:=hsub _ _ hs
      cases hd
      refine⟨?_,fun _=>rfl,fun s' hs'=>by simp at hs';subst hs';rw[hs];rfl⟩
      cases hv with
      | slice _ _ _ a' ks' xs' b o cap p1 p2 p3 p4 p5 =>
       rw[hs]at p1;cases p1
       exact Zp (hh s _ hs0) p3 (by simp) p2 p4
      | sliceE _ _ a' ks' xs' base p1 p2=>simpa using VR.kD a ks base 0
    · cases hd
  · rename_i s off len
    split at hd
    · rename_i cs hs
      have hs0:=hs
      have hs:=hsub _ _ hs
      split at hd
      · rename_i kd vs hb
        cases hd
        refine⟨?_,fun _=>rfl,fun s' hs'=>by simp at hs';subst hs';rw[hs];rfl⟩
        cases hv with
        | bslice _ _ _ cs' b o cap p1 p2 p3 p4 =>
         rw[hs]at p1;cases p1
         exact Zq (hh s _ hs0) p3 (by simp) hb p2 p4
        | bsliceE _ _ cs' base p1 p2=>simpa using VR.kD false [kd] base 0
      · cases hd
    · cases hd
  · rename_i s
    split at hd
    · rename_i t es hs
      have hs0:=hs
      have hs:=hsub _ _ hs
      cases hd
      refine⟨?_,fun _=>rfl,fun s' hs'=>by simp at hs';subst hs';rw[hs];rfl⟩
      cases hv with
      | Kt _ _ _ _ _ g1=>rw[hs]at g1;cases g1
      | AU _ _ g1=>rw[hs]at g1;cases g1
      | Kr _ u' es' b o p1 p2 =>
       cases hh s _ hs0 with
       | mp _ _ b' o' E k k1 k2 k3 k4 =>
        rw[p2]at k1;cases k1
        refine .zX _ _ b E k (.inr ⟨s,o,by simp,p2⟩) k2 (by simpa using k3) (by simp) ?_ ?_
        · intro i x e hx he
          simp only[List.getElem?_map,Option.map_eq_some_iff]at hx
          obtain⟨p,hp,rfl⟩:=hx
          exact(k4 i p e hp he).1.plus _
        · intro i x e hx he
          simp only[List.getElem?_map,Option.map_eq_some_iff]at hx
          obtain⟨p,hp,rfl⟩:=hx
          exact(k4 i p e hp he).2.plus _
    · cases hd
  · cases hd
theorem Gz {h' : Nat → Option aI} (hh : ∀ s b,h' s = some b → BR w M β h s b) (hsub : ∀ s b,h' s = some b → h s = some b) : ∀ {vs : List AV} {xs : List PV} {ss : List Nat} {f : Nat → Value},vw h' vs = some (xs,ss) →
    (∀ (i:Nat) (v:AV),vs[i]?=some v→AR w M β h v (f i))→(∀ v∈vs,v.leaf=true) →
    xs.length=vs.length∧(∀ x∈xs,x.leaf=true)∧(∀ (i:Nat) (x:PV),xs[i]?=some x→VR w (aY M β ss) x (f i))∧∀ s∈ss,(h s).isSome=true
  | [],xs,ss,f,hd,_,_=>by simp[vw]at hd;obtain⟨rfl,rfl⟩:=hd;simp
  | v::r,xs,ss,f,hd,hv,hl=>by
   simp only[vw]at hd
   split at hd
   · rename_i x s1 ys s2 h1 h2
     cases hd
     obtain⟨a1,a2,a3⟩:=Rn hh hsub h1 (hv 0 v (by simp))
     obtain⟨b1,b2,b3,b4⟩:=Gz hh hsub (f:=fun i=>f (i+1)) h2 (fun i u hu=>hv (i+1) u (by simpa using hu)) (fun u hu=>hl u (by simp[hu]))
     refine⟨by simp[b1],?_,?_,?_⟩
     · intro y hy
       rcases List.mem_cons.1 hy with rfl | hy
       · exact a2 (hl v (by simp))
       · exact b2 y hy
     · intro i y hi
       cases i with
       | zero=>simp at hi;subst hi;exact a1.more fun s hs=>by simp[hs]
       | succ i=>simp at hi;exact(b3 i y hi).more fun s hs=>by simp[hs]
     · intro s hs
       rcases List.mem_append.1 hs with hs | hs
       · exact a3 s hs
       · exact b4 s hs
   · cases hd
theorem KI {h' : Nat → Option aI} (hh : ∀ s b,h' s = some b → BR w M β h s b) (hsub : ∀ s b,h' s = some b → h s = some b) {v : AV} {x : PV} {ss : List Nat} {c : Value} (hd : EN h' v = some (x,ss)) (hv : AR w M β h v c) :
    VR w (aY M β ss) x c∧(v.leaf=true→x.leaf=true)∧∀ s∈ss,(h s).isSome=true:=by
  unfold EN at hd
  split at hd
  · rename_i s
    split at hd
    · rename_i cs hs
      have hs0:=hs
      have hs:=hsub _ _ hs
      split at hd
      · rename_i vs ss' h1
        cases hd
        cases hv with
        | ptrA _ _ _ a ks xs b o p1 p2 p3=>rw[hs]at p1;cases p1
        | ptrT _ _ _ _ _ b p1 p2=>rw[hs]at p1;cases p1
        | ptrB _ _ cs' b o p1 p2 =>
         cases hh s _ hs0 with
         | box _ b' o' C e fr g1 g2 g3 g4 g5 g6 =>
          rw[p2]at g1;cases g1
          obtain⟨b1,b2,b3,b4⟩:=Gz hh hsub (f:=fun i=>C.getD (o+i) undef) h1 g6 g5
          refine⟨?_,fun _=>rfl,?_⟩
          · simp only[Nat.add_zero]
            refine .ref vs b o (fun i=>C.getD (o+i) undef) (.inr ⟨s,o,by simp,p2⟩) b2 ?_ (fun j c hj=>(b3 j c hj).more fun s hs=>by simp[hs])
            intro j c hj
            have:=(List.getElem?_eq_some_iff.1 hj).1
            exact uj g2 (by omega)
          · intro s' hs'
            rcases List.mem_cons.1 hs' with rfl | hs'
            · rw[hs];rfl
            · exact b4 s' hs'
      · cases hd
    · cases hd
  · exact Rn hh hsub hd hv
theorem NW {h' : Nat → Option aI} (hh : ∀ s b,h' s = some b → BR w M β h s b) (hsub : ∀ s b,h' s = some b → h s = some b) : ∀ {vs : List AV} {xs : List PV} {ss : List Nat} {f : Nat → Value},AA h' vs = some (xs,ss) →
    (∀ (i:Nat) (v:AV),vs[i]?=some v→AR w M β h v (f i)) →
    xs.length=vs.length∧(∀ (i:Nat) (x:PV),xs[i]?=some x→VR w (aY M β ss) x (f i))∧∀ s∈ss,(h s).isSome=true
  | [],xs,ss,f,hd,_=>by simp[AA]at hd;obtain⟨rfl,rfl⟩:=hd;simp
  | v::r,xs,ss,f,hd,hv=>by
   simp only[AA]at hd
   split at hd
   · rename_i x s1 ys s2 h1 h2
     cases hd
     obtain⟨a1,a2,a3⟩:=KI hh hsub h1 (hv 0 v (by simp))
     obtain⟨b1,b3,b4⟩:=NW hh hsub (f:=fun i=>f (i+1)) h2 (fun i u hu=>hv (i+1) u (by simpa using hu))
     refine⟨by simp[b1],?_,?_⟩
     · intro i y hi
       cases i with
       | zero=>simp at hi;subst hi;exact a1.more fun s hs=>by simp[hs]
       | succ i=>simp at hi;exact(b3 i y hi).more fun s hs=>by simp[hs]
     · intro s hs
       rcases List.mem_append.1 hs with hs | hs
       · exact a3 s hs
       · exact b4 s hs
   · cases hd
theorem wz {h' : Nat → Option aI} (hh : ∀ s b,h' s = some b → BR w M β h s b) (hsub : ∀ s b,h' s = some b → h s = some b) {v : AV} {x : PV} {ss : List Nat} {c : Value} (hd : deep h' v = some (x,ss)) (hv : AR w M β h v c) :
    VR w (aY M β ss) x c∧∀ s∈ss,(h s).isSome=true:=by
  unfold deep at hd
  split at hd
  · rename_i cs
    split at hd
    · rename_i vs ss' h1
      cases hd
      cases hv with
      | agg _ us hn hl hc =>
       obtain⟨b1,b2,b3,b4⟩:=Gz hh hsub (f:=fun i=>us.getD i undef) h1 hc hl
       exact⟨.agg vs us (by omega) b2 b3,b4⟩
    · cases hd
  · rename_i f cs
    split at hd
    · rename_i vs ss' h1
      cases hd
      cases hv with
      | fn _ _ us hn hc =>
       obtain⟨b1,b3,b4⟩:=NW hh hsub (f:=fun i=>us.getD i undef) h1 hc
       exact⟨.fn f vs us (by omega) b3,b4⟩
    · cases hd
  · obtain⟨a1,_,a3⟩:=KI hh hsub hd hv
    exact⟨a1,a3⟩
theorem E5 {h' : Nat → Option aI} (hh : ∀ s b,h' s = some b → BR w M β h s b) (hsub : ∀ s b,h' s = some b → h s = some b) : ∀ {vs : List AV} {xs : List PV} {ss : List Nat} {cs : List Value},C9 h' vs = some (xs,ss) →
    kW w M β h vs cs→xs.length=cs.length∧(∀ (i:Nat) (x:PV) (c:Value),xs[i]?=some x→cs[i]?=some c→VR w (aY M β ss) x c)∧∀ s∈ss,(h s).isSome=true
  | [],xs,ss,cs,hd,hl=>by
   simp[C9]at hd;obtain⟨rfl,rfl⟩:=hd
   have:cs=[]:=by have:=hl.1;simpa using this.symm
   subst this;simp
  | v::r,xs,ss,[],hd,hl=>by have:=hl.1;simp at this
  | v::r,xs,ss,c::cs,hd,hl=>by
   simp only[C9]at hd
   split at hd
   · rename_i x s1 ys s2 h1 h2
     cases hd
     obtain⟨l1,l2⟩:=hl.cons
     obtain⟨a1,a3⟩:=wz hh hsub h1 l1
     obtain⟨b1,b3,b4⟩:=E5 hh hsub h2 l2
     refine⟨by simp[b1],?_,?_⟩
     · intro i y d hi hj
       cases i with
       | zero=>simp at hi hj;subst hi;subst hj;exact a1.more fun s hs=>by simp[hs]
       | succ i=>simp at hi hj;exact(b3 i y d hi hj).more fun s hs=>by simp[hs]
     · intro s hs
       rcases List.mem_append.1 hs with hs | hs
       · exact a3 s hs
       · exact b4 s hs
   · cases hd
end
end Go.Skm
namespace Go.Skm
def dM (w:World) (b:Nat) (C:Array Value) (e:TypeId) (fr:Nat × Nat):World:={ w with heap:=w.heap.setIfInBounds b (.cells C e fr) }
def dS (C:Array Value) (k:Nat) (vs:List Value):Array Value:=(patch C.toList k vs).toArray
theorem eP {C:Array Value} {k:Nat} {vs:List Value} (h:k+vs.length≤C.size):(dS C k vs).size=C.size:=by
 simp only[dS,List.size_toArray]
 rw[iG _ _ _ (by simpa using h)];simp
theorem oK {C : Array Value} {k : Nat} {vs : List Value} (h : k + vs.length ≤ C.size) (i : Nat) :
    (dS C k vs).getD i undef=if k≤i∧i<k+vs.length then vs.getD (i-k) undef else C.getD i undef:=by
  have:=oV C.toList k vs (by simpa using h) i
  simp only[dS,Array.getD_eq_getD_getElem?,List.getElem?_toArray,this]
  split<;>simp[List.getD]
theorem Ic {w:World} {b:Nat} {C:Array Value} {e:TypeId} {fr:Nat × Nat} (hw:w.heap[b]?=some (.cells C e fr)):dM w b C e fr=w:=by
 unfold dM
 have:w.heap.setIfInBounds b (.cells C e fr)=w.heap:=by
  apply Array.ext
  · simp
  · intro i h1 h2
    by_cases hb:b=i
    · subst hb
      simp
      have:=(Array.getElem?_eq_some_iff.1 hw).2
      exact this.symm
    · rw[Array.getElem_setIfInBounds_ne (by simpa using h1) hb]
 rw[this]
theorem rY {w:World} {b:Nat} {C C':Array Value} {e:TypeId} {fr:Nat × Nat} (hw:w.heap[b]?=some (.cells C e fr)):(dM w b C' e fr).heap[b]?=some (.cells C' e fr):=by
 have:=(Array.getElem?_eq_some_iff.1 hw).1
 simp[dM,this]
theorem Di {w:World} {b:Nat} {C C':Array Value} {e:TypeId} {fr:Nat × Nat}:dM (dM w b C e fr) b C' e fr=dM w b C' e fr:=by
 simp[dM]
theorem setCell_eq {w:World} {b i:Nat} {C:Array Value} {e:TypeId} {fr:Nat × Nat} {v:Value} (hw:w.heap[b]?=some (.cells C e fr)):w.setCell ⟨b,i,none⟩ v=dM w b (C.setIfInBounds i v) e fr:=by
 unfold World.setCell dM
 congr 1
 have hb:=(Array.getElem?_eq_some_iff.1 hw).1
 apply Array.ext
 · simp
 · intro j h1 h2
   by_cases hj:b=j
   · subst hj
     have:=(Array.getElem?_eq_some_iff.1 hw).2
     simp[Array.getElem_modify,this]
   · rw[Array.getElem_setIfInBounds_ne (by simpa using h1) hj]
     simp[Array.getElem_modify,hj]
theorem NY {C:Array Value} {k:Nat} {v:Value} {vs:List Value} (h:k+(v::vs).length≤C.size):dS (C.setIfInBounds k v) (k+1) vs=dS C k (v::vs):=by
 simp only[List.length_cons]at h
 have h1:k+1+vs.length≤(C.setIfInBounds k v).size:=by simp;omega
 have h2:k+(v::vs).length≤C.size:=by simp;omega
 apply Array.ext
 · rw[eP h1,eP h2];simp
 · intro i g1 g2
   have e1:=oK h1 i
   have e2:=oK h2 i
   rw[Array.getD,dif_pos g1]at e1
   rw[Array.getD,dif_pos g2]at e2
   have f1:(dS (C.setIfInBounds k v) (k+1) vs)[i]=_:=e1
   have f2:(dS C k (v::vs))[i]=_:=e2
   rw[f1,f2]
   rw[eP h2]at g2
   by_cases hk:k=i
   · subst hk
     rw[if_neg (by omega),if_pos (by simp)]
     simp[g2]
   · by_cases hr:k+1≤i∧i<k+1+vs.length
     · rw[if_pos hr,if_pos (by simp;omega)]
       have:i-k=(i-(k+1))+1:=by omega
       rw[this];simp
     · rw[if_neg hr,if_neg (by simp;omega)]
       simp[Array.getElem?_setIfInBounds_ne hk]
theorem mV {P : Program} {b o : Nat} {e : TypeId} {fr : Nat × Nat} : ∀ (vs : List Value) (i : Nat) (w : World) (C : Array Value),w.heap[b]? = some (.cells C e fr) → Open C fr → o + i + vs.length ≤ C.size →
    (∀ v∈vs,v.oneCell'=true)→(storeCells ⟨b,o,none⟩ vs i).run P w=.ok () (dM w b (dS C (o+i) vs) e fr)
  | [],i,w,C,hw,_,hl,_=>by
   have:dS C (o+i) []=C:=by simp[dS,patch]
   rw[this,Ic hw];rfl
  | v::r,i,w,C,hw,ho,hl,h1=>by
   simp only[List.length_cons]at hl
   have hcell:w.cell? ⟨b,o+i,none⟩=some (C.getD (o+i) undef):=uj hw (by omega)
   have hfr:w.frozen? ⟨b,o+i,none⟩=false:=by
    simp only[World.frozen?,hw]
    have:=ho.at (o+i) (by omega)
    simp only[Bool.and_eq_false_iff,decide_eq_false_iff_not]
    omega
   have hb:=(Array.getElem?_eq_some_iff.1 hw).1
   simp only[storeCells,Sem.run_bind,addr_add,run_store P w _ v .plain (h1 v (by simp)),hcell,hfr,Bool.false_eq_true,if_false,Result.andThen_ok,setCell_eq hw]
   rw[mV r (i+1) _ (C.setIfInBounds (o+i) v) (rY hw) (ho.size (by simp)) (by simp;omega) (fun u hu=>h1 u (by simp[hu])),Di]
   congr 2
   rw[← Nat.add_assoc]
   exact NY (by simp;omega)
section
variable {w0:Base} {Pr M0 M:Nat→Prop} {β:Nat→Option (Nat × Nat)} {st:St} {a:Act} {w:World}
theorem lW:∀ {ss:List Nat},fU ss=true→∀ s∈ss,s<ah
 | [],_,s,hs=>by simp at hs
 | x::r,h,s,hs=>by
  simp only[fU,Bool.and_eq_true]at h
  rcases List.mem_cons.1 hs with rfl | hs
  · exact(Nat.blt_eq▸h.1:_)
  · exact lW h.2 s hs
theorem Rel.freeze (r:Rel w0 Pr M0 M β st a w) (ds ss:List Nat) (hf:fU ss=true) (hl:∀ s∈ss,(look st.heap s).isSome=true):Rel w0 Pr M0 (aY M β ss) β (st.strike (ds++ss)) a w:=by
 refine r.strike (ds++ss) (fun b hb=>.inl hb) fun b hb=>?_
 rcases hb with hb | ⟨s,o,hs,hb⟩
 · exact .inl hb
 · refine .inr ⟨?_,s,o,by simp[hs],hl s hs,hb⟩
   rcases(r.own s b o (hl s hs) hb).2.2.2 with h | h
   · exact h
   · have:=lW hf s hs
     omega
theorem bQ (ss:List Nat) (x:Nat):look (st.strike ss).heap x=if x∈ss then none else(look st.heap x).map (aI.kill ss):=by
 cases ss with
 | nil =>
  have:∀ b:aI,aI.kill [] b=b:=by
   have kn:∀ v:AV,AV.kill [] v=v:=by
    have:(∀ v:AV,AV.refers [] v=false):=by
     intro v
     have key:∀ (v:AV),AV.refers [] v=false:=by
      intro v
      apply AV.rec (motive_1:=fun v=>AV.refers [] v=false) (motive_2:=fun l=>AV.fK [] l=false)<;>intros<;>simp_all [AV.refers,AV.fK,dZ]
     exact key v
    intro v;unfold AV.kill;rw[this];rfl
   have kl:∀ cs:List AV,fP [] cs=cs:=by
    intro cs;induction cs with
    | nil=>rfl
    | cons v r ih=>simp[fP,kn,ih]
   intro b;cases b with
   | box cs=>simp[aI.kill,kl]
   | arr=>rfl
   | log=>rfl
   | tb t c0 c1=>simp[aI.kill,kn]
   | mp t es=>rfl
   | br e xs=>rfl
  simp only[St.strike,List.not_mem_nil,if_false]
  cases look st.heap x with
  | none=>rfl
  | some b=>simp[this]
 | cons s0 sr=>simp only[St.strike,qm,fA]
theorem AR.struck {M':Nat→Prop} {v:AV} {c:Value} (h:AR w M β (look st.heap) v c) (ss:List Nat) (hM:∀ b,M b→M' b) (hr:∀ s∈ss,AV.refers [s] v=false):AR w M' β (look (st.strike ss).heap) v c:=by
 refine h.mono (fun b hb=>⟨hM b hb,rfl⟩) fun s blk hrs hl=>⟨blk.kill ss,?_,aI.uF _ _,rfl,fun _ _ _ _ h=>h⟩
 rw[bQ,if_neg (fun hm=>by rw[hr s hm]at hrs;cases hrs),hl];rfl
theorem lu {hp:Heap}:∀ {l:List Nat} {s:Nat},s∈present hp l→s∈l∧(look hp s).isSome=true
 | [],s,h=>by simp[present]at h
 | x::r,s,h=>by
  simp only[present]at h
  split at h
  · rename_i b hb
    rcases List.mem_cons.1 h with rfl | h
    · exact⟨by simp,by rw[hb];rfl⟩
    · exact⟨by simp[(lu h).1],(lu h).2⟩
  · exact⟨by simp[(lu h).1],(lu h).2⟩
theorem oZ {hp:Heap}:∀ {l:List Nat} {s:Nat},s∈l→(look hp s).isSome=true→s∈present hp l
 | [],s,h,_=>by simp at h
 | x::r,s,h,hs=>by
  simp only[present]
  split
  · rcases List.mem_cons.1 h with rfl | h
    · simp
    · simp[oZ h hs]
  · rename_i hb
    rcases List.mem_cons.1 h with rfl | h
    · rw[hb]at hs;cases hs
    · exact oZ h hs
theorem Rel.fresh (r : Rel w0 Pr M0 M β st a w) {ss : List Nat} (hf : fU ss = true) (hl : ∀ s ∈ ss,(look st.heap s).isSome = true) {d : Nat} {blk : aI} {w' : World} {b o : Nat} {v : AV} {c : Value}
    (hsz:w.heap.size≤w'.heap.size) (hos:w'.os=w.os) (htp:w'.tape=w.tape) (hop:w'.output=w.output) (hold:∀ k,k<w.heap.size→w'.heap[k]?=w.heap[k]?) (hb1:w.heap.size≤b) (hb2:b<w'.heap.size)
    (hB:∀ (β':Nat→Option (Nat × Nat)) (h':Nat→Option aI),β' d=some (b,o)→h' d=some blk →
      (∀ (v:AV) (c:Value),AR w M β (look st.heap) v c→(∀ s∈d::ss,AV.refers [s] v=false)→AR w' (aY M β ss) β' h' v c)→(∀ (v:PV) (c:Value),VR w (aY M β ss) v c→VR w' (aY M β ss) v c) →
      BR w' (aY M β ss) β' h' d blk∧AR w' (aY M β ss) β' h' v c) :
    Rel w0 Pr M0 (aY M β ss) (fun x=>if x=d then some (b,o) else β x) (st.apply (some d) { val:=v,lJ:=[(d,blk)],new:=[d],wP:=ss }) (a.put (some d) c) w':=by
  have r1:=r.freeze (present st.heap [d]) ss hf hl
  have hM1:∀ b,aY M β ss b→b<w.heap.size:=r1.fJ
  have r2:Rel w0 Pr M0 (aY M β ss) β (st.strike (present st.heap [d]++ss)) a w':=r1.world hsz hos htp hop (fun k hk _=>hold k hk) (fun k n _ hk _ hr=>hr.of_block (hold k hk)) (fun _ h=>h) (fun _ h=>.inl h)
  have habs:look (st.strike (present st.heap [d]++ss)).heap d=none:=by
   rw[bQ]
   by_cases hm:d∈present st.heap [d]++ss
   · rw[if_pos hm]
   · rw[if_neg hm]
     cases hd:look st.heap d with
     | none=>rfl
     | some x=>exact absurd (List.mem_append.2 (.inl (oZ (by simp) (by rw[hd];rfl)))) hm
  have hval:∀ (v:PV) (c:Value),VR w (aY M β ss) v c→VR w' (aY M β ss) v c:=fun v c h=>h.mono fun k hk=>⟨hk,hold k (hM1 k hk)⟩
  have hkeep : ∀ (v : AV) (c : Value),AR w M β (look st.heap) v c → (∀ s ∈ d::ss,AV.refers [s] v = false) →
      AR w' (aY M β ss) (fun x=>if x=d then some (b,o) else β x) (fun x=>if x=d then some blk else look (st.strike (present st.heap [d]++ss)).heap x) v c:=by
    intro v c h hr
    have h1:=h.struck (M':=aY M β ss) (present st.heap [d]++ss) (fun _ h=>.inl h) fun s hs=>by
     rcases List.mem_append.1 hs with hs | hs
     · have:=(lu hs).1
       simp at this;subst this
       exact hr s (by simp)
     · exact hr s (by simp[hs])
    refine h1.mono (fun k hk=>⟨hk,hold k (hM1 k hk)⟩) fun s x _ hx=>?_
    have hne:s≠d:=by rintro rfl;rw[habs]at hx;cases hx
    refine⟨x,by simp only[if_neg hne];exact hx,Like.refl _,by simp only[if_neg hne],fun b1 o1 n hb hr=>hr.of_block (hold b1 ?_)⟩
    exact(r1.own s b1 o1 (by rw[hx];rfl) hb).2.1
  obtain⟨hB1,hB2⟩:=hB (fun x=>if x=d then some (b,o) else β x) (fun x=>if x=d then some blk else look (st.strike (present st.heap [d]++ss)).heap x) (by simp) (by simp) hkeep hval
  have r3:=r2.lay (s:=d) (blk:=blk) habs (p:=some (b,o)) (fun b' o' e=>by
   cases e
   refine⟨fun hm=>?_,hb2,⟨.inl (by have:=r.size;omega),.inl (by have:=r.size;have:=w0.le';omega)⟩,fun s' o' hs' nP=>?_⟩
   · have:=hM1 _ hm;omega
   · have:=(r1.own s' b o' hs' nP).2.1;omega) hB1
  have hlk:look (put (st.strike (present st.heap [d]++ss)).heap d blk)=fun x=>if x=d then some blk else look (st.strike (present st.heap [d]++ss)).heap x:=funext fun x=>aV _ _ _ _
  exact r3.setEnv (some d) (v:=v) (c:=c) (by
   show AR w' _ _ (look (put (st.strike (present st.heap [d]++ss)).heap d blk)) v c
   rw[hlk];exact hB2)
end
end Go.Skm
namespace Go.Skm
def iM (hp hp':Heap):Prop:=∀ s,ah≤s→∀ blk',look hp' s=some blk'→∃ blk,look hp s=some blk∧Like blk blk'
theorem Like.trans {x y z:aI} (h1:Like x y) (h2:Like y z):Like x z:=by
 cases x<;>cases y<;>cases z<;>simp only[Like]at *
 · omega
 · exact⟨h1.1.trans h2.1,h1.2.1.trans h2.2.1,Nat.le_trans h1.2.2 h2.2.2⟩
 · exact h1.trans h2
 · exact h1.trans h2
 · exact h1.trans h2
 · exact⟨h1.1.trans h2.1,h1.2.trans h2.2⟩
theorem iM.trans {a b c:Heap} (h1:iM a b) (h2:iM b c):iM a c:=by
 intro s hs blk h
 obtain⟨y,hy,ly⟩:=h2 s hs blk h
 obtain⟨x,hx,lx⟩:=h1 s hs y hy
 exact⟨x,hx,lx.trans ly⟩
theorem AX (x:Nat):∀ (l:List (Nat × aI)) (hp:Heap) (b:aI),look (cZ hp l) x=some b→look hp x=some b∨(x,b)∈l
 | [],hp,b,h=>.inl h
 | (s,c)::r,hp,b,h=>by
  rcases AX x r (put hp s c) b h with h | h
  · rw[aV]at h
    by_cases hx:x=s
    · rw[if_pos hx]at h;cases h;subst hx;exact .inr (by simp)
    · rw[if_neg hx]at h;exact .inl h
  · exact .inr (by simp[h])
theorem wC (st:St) (ss:List Nat):iM st.heap (st.strike ss).heap:=by
 intro s _ blk h
 rw[bQ]at h
 split at h
 · cases h
 · cases hl:look st.heap s with
   | none=>rw[hl]at h;cases h
   | some b=>rw[hl]at h;cases h;exact⟨b,rfl,aI.uF _ _⟩
theorem uF (st:St) (ss:List Nat):iM st.heap (st.kill ss).heap:=by
 intro s _ blk h
 cases ss with
 | nil=>exact⟨blk,h,Like.refl _⟩
 | cons x r =>
  simp only[St.kill,fA]at h
  cases hl:look st.heap s with
  | none=>rw[hl]at h;cases h
  | some b=>rw[hl]at h;cases h;exact⟨b,rfl,aI.uF _ _⟩
def Ro (hp:Heap) (l:List (Nat × aI)):Prop:=∀ k b,(k,b)∈l→k<ah∨∃ b0,look hp k=some b0∧Like b0 b
theorem eU {st:St} {d:Option Nat} {e:Eff} (h:Ro st.heap e.lJ):iM st.heap (st.apply d e).heap:=by
 intro s hs blk hb
 rcases AX s _ _ _ hb with hb | hb
 · exact(wC st _).trans (uF _ e.cut) s hs blk hb
 · rcases h s blk hb with h | h
   · omega
   · exact h
theorem BX {hp:Heap}:Ro hp []:=fun _ _ h=>by simp at h
theorem lM {hp:Heap} {s:Nat} {b:aI} (h:s<ah∨∃ b0,look hp s=some b0∧Like b0 b):Ro hp [(s,b)]:=by
 intro k c hk
 simp at hk
 obtain⟨rfl,rfl⟩:=hk
 exact h
structure aO (P:Program) (w0:Base) (Pr M0:Nat→Prop) (β:Nat→Option (Nat × Nat)) (st:St) (a:Act) (w:World) (d:Option Nat) (D:DT) (sem:Sem Next):Prop where
 Zl:∀ (α:Type) (k:Eff→Option α) (r:α),D.run k=some r→∃ e nv c w' M' β',k e=some r∧sem.run P w=.ok nv w'∧(nv=.value c∨(nv=.skip∧c=undef)) ∧
  (fU (e.new++e.wP)=true→Rel w0 Pr M0 M' β' (st.apply d e) (a.put d c) w'∧(∀ s,ah≤s→β' s=β s)∧iM st.heap (st.apply d e).heap)
theorem jh:∀ {x y:List Nat},fU (x++y)=true→fU x=true∧fU y=true
 | [],y,h=>⟨rfl,h⟩
 | s::x,y,h=>by
  simp only[List.cons_append,fU,Bool.and_eq_true]at h ⊢
  exact⟨⟨h.1,(jh h.2).1⟩,(jh h.2).2⟩
section
variable {P:Program} {T:Tab} {w0:Base} {Pr M0 M:Nat→Prop} {β:Nat→Option (Nat × Nat)} {st:St} {a:Act} {w:World} {d:Option Nat}
theorem aO.fail {sem:Sem Next}:aO P w0 Pr M0 β st a w d .fail sem:=⟨fun _ _ _ hk=>by simp[DT.run]at hk⟩
theorem aO.chk {c:Bool} {D:DT} {sem:Sem Next} (h1:c=true→aO P w0 Pr M0 β st a w d D sem):aO P w0 Pr M0 β st a w d (Skm.chk c D) sem :=
 ⟨fun α k r hk=>by obtain⟨h2,h3⟩:=PO hk;exact(h1 h2).Zl α k r h3⟩
theorem aO.ret {e : Eff} {sem : Sem Next} {nv : Next} {c : Value} {w' : World} {M' : Nat → Prop} {β' : Nat → Option (Nat × Nat)} (h1 : sem.run P w = .ok nv w') (h2 : nv = .value c ∨ (nv = .skip ∧ c = undef))
    (h3:fU e.wP=true→Rel w0 Pr M0 M' β' (st.apply d e) (a.put d c) w') (h4:fU (e.new++e.wP)=true→∀ s,ah≤s→β' s=β s:=by exact fun _ _ _=>rfl)
    (h5:fU (e.new++e.wP)=true→Ro st.heap e.lJ:=by exact fun hf=>lM (.inl (lW hf _ (by simp)))):aO P w0 Pr M0 β st a w d (.ret e) sem :=
  ⟨fun _ _ _ hk=>⟨e,nv,c,w',M',β',hk,h1,h2,fun hf=>⟨h3 (jh hf).2,h4 hf,eU (h5 hf)⟩⟩⟩
theorem oG {d:Nat} {ss:List Nat} {p:Option (Nat × Nat)} (hf:fU ([d]++ss)=true):∀ s,ah≤s→(if s=d then p else β s)=β s:=by
 intro s hs
 have:=lW hf d (by simp)
 exact if_neg (by omega)
theorem aO.KJ (r:Rel w0 Pr M0 M β st a w) {D:DT} {sem:Sem Value} (h:aj P w M β (look st.heap) D sem):aO P w0 Pr M0 β st a w d D (do pure (.value (← sem))):=by
 refine⟨fun α k q hk=>?_⟩
 obtain⟨v,c,h1,h2,h3⟩:=h.Zl α k q hk
 exact⟨_,.value c,c,w,M,β,h1,by simp[h3],.inl rfl,fun _=>⟨r.setEnv d h2,fun _ _=>rfl,eU BX⟩⟩
theorem alloc_old {w:World} {o:Obj} {k:Nat} (h:k<w.heap.size):(w.alloc o).heap[k]?=w.heap[k]?:=by
 show (w.heap.push o)[k]?=_
 rw[Array.getElem?_push,if_neg (by omega)]
theorem lZ {w:World} {o:Obj}:(w.alloc o).heap[w.heap.size]?=some o:=by
 show (w.heap.push o)[w.heap.size]?=_
 simp
theorem o7 (C:Array Value):Open C (0,0):=.inl rfl
theorem Rel.Zr (r : Rel w0 Pr M0 M β st a w) {d : Nat} {cs : List AV} {C : Array Value} {e : TypeId} (hn : C.size = cs.length) (hl : ∀ c ∈ cs,c.leaf = true)
    (hc:∀ (j:Nat) (c:AV),cs[j]?=some c→AR w M β (look st.heap) c (C.getD j undef)) (hr:∀ c∈cs,AV.refers [d] c=false) :
    Rel w0 Pr M0 (aY M β []) (fun x=>if x=d then some (w.heap.size,0) else β x) (st.apply (some d) { val:=.ptr d 0 0,lJ:=[(d,.box cs)],new:=[d] }) (a.put (some d) (.pointer (some ⟨w.heap.size,0,none⟩))) (w.alloc (.cells C e)):=by
  refine r.fresh (ss:=[]) (b:=w.heap.size) (o:=0) rfl (by simp) (by simp) rfl rfl rfl (fun k hk=>alloc_old hk) (Nat.le_refl _) (by simp) ?_
  intro β' h' nP hh hk _
  refine⟨.box cs w.heap.size 0 C e (0,0) nP lZ (by omega) (o7 C) hl fun j c hj=>?_,?_⟩
  · rw[Nat.zero_add]
    exact hk _ _ (hc j c hj) fun s hs=>by simp at hs;subst hs;exact hr c (List.mem_of_getElem? hj)
  · have:=AR.ptrB (w:=w.alloc (.cells C e)) (M:=aY M β []) (β:=β') (h:=h') d 0 cs w.heap.size 0 hh nP
    simpa using this
theorem Rel.aeH (r : Rel w0 Pr M0 M β st a w) {d : Nat} {t : TypeId} {c0 c1 : AV} {C : Array Value} (hn : C.size = 2) (hl0 : c0.leaf = true) (hl1 : c1.leaf = true)
    (h0:AR w M β (look st.heap) c0 (C.getD 0 undef)) (h1:AR w M β (look st.heap) c1 (C.getD 1 undef)) (hr0:AV.refers [d] c0=false) (hr1:AV.refers [d] c1=false) :
    Rel w0 Pr M0 (aY M β []) (fun x=>if x=d then some (w.heap.size,0) else β x) (st.apply (some d) { val:=.ptr d 0 0,lJ:=[(d,.tb t c0 c1)],new:=[d] }) (a.put (some d) (.pointer (some ⟨w.heap.size,0,none⟩))) (w.alloc (.cells C t)):=by
  refine r.fresh (ss:=[]) (b:=w.heap.size) (o:=0) rfl (by simp) (by simp) rfl rfl rfl (fun k hk=>alloc_old hk) (Nat.le_refl _) (by simp) ?_
  intro β' h' nP hh hk _
  refine⟨.tb t c0 c1 w.heap.size C (0,0) nP lZ hn (o7 C) hl0 hl1 (hk _ _ h0 fun s hs=>by simp at hs;subst hs;exact hr0) (hk _ _ h1 fun s hs=>by simp at hs;subst hs;exact hr1),?_⟩
  exact AR.ptrT (w:=w.alloc (.cells C t)) (M:=aY M β []) (β:=β') (h:=h') d 0 t c0 c1 w.heap.size hh nP
theorem Rel.Un (r : Rel w0 Pr M0 M β st a w) {ss : List Nat} (hf : fU ss = true) (hlive : ∀ s ∈ ss,(look st.heap s).isSome = true) {d : Nat} {sa : Bool} {ks : List Kd} {xs : List PV} {C : Array Value} {e : TypeId} {fr : Nat × Nat} {len cap : Nat}
    (ho:Open C fr) (hs:∀ x∈xs,aA sa ks x=true) (hlen:len≤xs.length) (hcap:len≤cap) (hC:cap*ks.length≤C.size) (hX:xs.length*ks.length≤C.size)
    (hc:∀ (i:Nat) (x:PV) (j:Nat) (c:PV),xs[i]?=some x→x.cells[j]?=some c→VR w (aY M β ss) c (C.getD (i*ks.length+j) undef)) :
    Rel w0 Pr M0 (aY M β ss) (fun x=>if x=d then some (w.heap.size,0) else β x) (st.apply (some d) { val:=.slice d ks.length 0 len,lJ:=[(d,.arr sa ks xs)],new:=[d],wP:=ss }) (a.put (some d) (.slice (some ⟨w.heap.size,0,none⟩) len cap)) (w.alloc (.cells C e fr)):=by
  refine r.fresh hf hlive (b:=w.heap.size) (o:=0) (by simp) rfl rfl rfl (fun k hk=>alloc_old hk) (Nat.le_refl _) (by simp) ?_
  intro β' h' nP hh _ hv
  refine⟨.arr sa ks xs w.heap.size 0 C e fr nP lZ (by omega) ho hs fun i x j c hx hj=>?_,?_⟩
  · rw[Nat.zero_add];exact hv _ _ (hc i x j c hx hj)
  · have:=AR.slice (w:=w.alloc (.cells C e fr)) (M:=aY M β ss) (β:=β') (h:=h') d 0 len sa ks xs w.heap.size 0 cap hh (by omega) nP hcap (Room.mk lZ (by rw[Nat.zero_add,Nat.zero_add];exact hC) ho)
    simpa using this
theorem Rel.Zt (r : Rel w0 Pr M0 M β st a w) {d : Nat} {sa : Bool} {ks : List Kd} (base : Option Addr := none) :
    Rel w0 Pr M0 M (fun x=>if x=d then none else β x) (st.apply (some d) { val:=.slice d ks.length 0 0,lJ:=[(d,.arr sa ks [])],new:=[d] }) (a.put (some d) (.slice base 0 0)) w:=by
  have r1:=r.strike (M':=M) (present st.heap [d]) (fun _ h=>h) (fun _ h=>.inl h)
  have habs:look (st.strike (present st.heap [d])).heap d=none:=by
   rw[bQ]
   by_cases hm:d∈present st.heap [d]
   · rw[if_pos hm]
   · rw[if_neg hm]
     cases hd:look st.heap d with
     | none=>rfl
     | some x=>exact absurd (oZ (by simp) (by rw[hd];rfl)) hm
  have r2:=r1.lay (s:=d) (blk:=.arr sa ks []) habs (p:=none) (fun _ _ e=>by cases e) (.fM sa ks)
  have hlk:look (put (st.strike (present st.heap [d])).heap d (.arr sa ks [])) d=some (.arr sa ks []):=by rw[aV];simp
  have r3:=r2.setEnv (some d) (v:=.slice d ks.length 0 0) (c:=.slice base 0 0) (.sliceE d 0 sa ks [] base hlk (by simp))
  have e : st.apply (some d) { val := .slice d ks.length 0 0,lJ := [(d,.arr sa ks [])],new := [d] } =
      { env:=Skm.setEnv (st.strike (present st.heap [d])).env (some d) (.slice d ks.length 0 0),heap:=put (st.strike (present st.heap [d])).heap d (.arr sa ks []) }:=by
    simp only[St.apply,List.append_nil];rfl
  rw[e]
  exact r3
theorem uG {v:Value} {z:PV} (hv:ofValue v=some z):∃ cs:List PV,z.cells=cs∧v.cells.size=cs.length∧(∀ c∈cs,c.leaf=true)∧∀ (w:World) (M:Nat→Prop) (j:Nat) (c:PV),cs[j]?=some c→VR w M c (v.cells.getD j undef):=by
 refine⟨z.cells,rfl,?_⟩
 have hz:∀ (w:World) (M:Nat→Prop),VR w M z v:=fun w M=>DU hv
 have h0:=hz default (fun _=>False)
 cases z with
 | agg cs =>
  cases h0 with
  | agg _ vs hn hl hc =>
   refine⟨by simpa [PV.cells,Value.cells] using hn,hl,fun w M j c hj=>?_⟩
   have:=hz w M
   cases this with
   | agg _ _ _ _ hc=>exact hc j c hj
 | _ =>
  have hc1:=h0.DN rfl
  refine⟨by rw[hc1];rfl,by simp[PV.cells,PV.leaf],fun w M j c hj=>?_⟩
  rw[hc1]
  cases j with
  | zero=>simp[PV.cells]at hj;subst hj;simpa using hz w M
  | succ j=>simp[PV.cells]at hj
theorem Xo (ok:bP P T) (r:Rel w0 Pr M0 M β st a w) {t:TypeId}:aO P w0 Pr M0 β st a w d (Gl T d t) (do pure (.value (← Instr.alloc t true (.tuple #[])))):=by
 unfold Gl
 split
 · rename_i d z hz
   obtain⟨i,v,h1,h2,h3⟩:=ok.zero hz
   obtain⟨cs,g1,g2,g3,g4⟩:=uG h3
   have hcells:(AV.p z).cells=cs.map .p:=by
    rw[← g1]
    cases z<;>rfl
   have hnr:∀ c∈cs.map AV.p,AV.refers [d] c=false:=by
    intro c hc
    obtain⟨y,_,rfl⟩:=List.mem_map.1 hc
    rfl
   have hr := r.Zr (d := d) (cs := cs.map .p) (C := v.cells) (e := t) (by simpa using g2) (fun c hc => by
       obtain⟨y,hy,rfl⟩:=List.mem_map.1 hc
       exact g3 y hy) (fun j c hj=>by
       rw[List.getElem?_map]at hj
       cases hy:cs[j]? with
       | none=>rw[hy]at hj;simp at hj
       | some y=>rw[hy]at hj;simp at hj;subst hj;exact .p _ _ (g4 _ _ j y hy)) hnr
   unfold abD
   split
   · obtain rfl:cs=[.zS,.nil]:=g1.symm
     have hn:v.cells.size=2:=g2
     have ht:=r.aeH (d:=d) (t:=t) (c0:=.p .zS) (c1:=.p .nil) (C:=v.cells) hn rfl rfl (.p _ _ (g4 _ _ 0 _ rfl)) (.p _ _ (g4 _ _ 1 _ rfl)) rfl rfl
     exact aO.ret (nv:=.value (.pointer (some ⟨w.heap.size,0,none⟩))) (by simp[Instr.alloc,nY h1 h2,newVar,newRow]) (.inl rfl) (fun _=>ht) (fun hf=>oG hf)
   · rw[hcells]
     exact aO.ret (nv:=.value (.pointer (some ⟨w.heap.size,0,none⟩))) (by simp[Instr.alloc,nY h1 h2,newVar,newRow]) (.inl rfl) (fun _=>hr) (fun hf=>oG hf)
 · exact aO.fail
theorem PX {s:Nat} {v:AV} (h:AV.refers [s] v=false):∀ c∈v.cells,AV.refers [s] c=false:=by
 have any:∀ (cs:List AV),AV.fK [s] cs=false→∀ c∈cs,AV.refers [s] c=false:=by
  intro cs
  induction cs with
  | nil=>intro _ c hc;simp at hc
  | cons x r ih =>
   intro h c hc
   simp only[AV.fK,Bool.or_eq_false_iff]at h
   rcases List.mem_cons.1 hc with rfl | hc
   · exact h.1
   · exact ih h.2 c hc
 intro c hc
 cases v with
 | p v =>
  have:∃ y,c=.p y:=by
   cases v<;>simp[AV.cells]at hc<;>first | exact⟨_,hc⟩ | (obtain⟨y,_,rfl⟩:=hc;exact⟨y,rfl⟩)
  obtain⟨y,rfl⟩:=this
  rfl
 | agg cs=>simp only[AV.cells]at hc;exact any cs (by simpa [AV.refers] using h) c hc
 | _=>simp[AV.cells]at hc;subst hc;exact h
theorem aa0 (r:Rel w0 Pr M0 M β st a w) {t:TypeId} {v:AV} {c:Value} (hv:AR w M β (look st.heap) v c):aO P w0 Pr M0 β st a w d (Px d v) (do pure (.value (← Instr.box t c))):=by
 unfold Px
 split
 · rename_i d
   refine aO.chk fun hk=>?_
   simp only[Bool.and_eq_true,Bool.not_eq_true']at hk
   obtain⟨g1,g2⟩:=hv.cells hk.1
   have hr:=r.Zr (d:=d) (cs:=v.cells) (C:=c.cells) (e:=t) g1 (fun x hx=>by
    obtain⟨j,hj⟩:=List.mem_iff_getElem?.1 hx
    exact(g2 j x hj).2.1) (fun j x hj=>(g2 j x hj).1) (PX hk.2)
   exact aO.ret (nv:=.value (.pointer (some ⟨w.heap.size,0,none⟩))) (by simp[Instr.box,newVar,newRow]) (.inl rfl) (fun _=>hr) (fun hf=>oG hf)
 · exact aO.fail
end
end Go.Skm
namespace Go.Skm
section
variable {P:Program} {T:Tab} {w0:Base} {Pr M0 M:Nat→Prop} {β:Nat→Option (Nat × Nat)} {st:St} {a:Act} {w:World} {d:Option Nat}
theorem vI {v:Value} {z:PV} {sa:Bool} {ks:List Kd} (hv:ofValue v=some z) (hs:aA sa ks z=true):v.cells.size=ks.length:=by
 obtain⟨cs,g1,g2,_,_⟩:=uG hv
 rw[g2,← g1];exact bY hs
theorem Rq {n i j:Nat} (hj:j<n):(i*n+j)%n=j:=by
 rw[Nat.mul_comm,Nat.mul_add_mod,Nat.mod_eq_of_lt hj]
theorem BZ {zs:Array Value} {n k i j:Nat} (hz:zs.size=k) (hi:i<n) (hj:j<k):((Array.range (n*k)).map (zs[·%zs.size]!)).getD (i*k+j) undef=zs.getD j undef:=by
 have hlt:i*k+j<n*k:=by
  have:(i+1)*k≤n*k:=Nat.mul_le_mul_right _ hi
  rw[Nat.add_mul]at this;omega
 have h1:j<zs.size:=by omega
 simp only[Array.getD_eq_getD_getElem?,Array.getElem?_map,Array.getElem?_range,hlt,if_true,Option.map_some,Option.getD_some,hz,Rq hj]
 rw[getElem!_pos zs j h1]
 simp[h1]
theorem Rt (hh : ∀ s b,look st.heap s = some b → BR w M β (look st.heap) s b) {h' : Nat → Option aI} (hsub : ∀ s b,h' s = some b → look st.heap s = some b) {sa : Bool} {ks : List Kd} :
    ∀ (ps:List (Nat × AV)) (cps:List (Nat × Value)) (xs:List PV) (ss:List Nat) (C:Array Value) (xs':List PV) (ss':List Nat),
    KD w M β (look st.heap) ps cps→C.size=xs.length*ks.length→(∀ x∈xs,aA sa ks x=true)→(∀ s∈ss,(look st.heap s).isSome=true) →
    (∀ (i:Nat) (x:PV) (j:Nat) (c:PV),xs[i]?=some x→x.cells[j]?=some c→VR w (aY M β ss) c (C.getD (i*ks.length+j) undef)) →
    QZ h' sa ks xs ss ps=some (xs',ss') →
    ∃ C',Instr.fill (fun i=>some (i*ks.length,ks.length)) C cps=some C'∧C'.size=xs'.length*ks.length∧xs'.length=xs.length∧(∀ x∈xs',aA sa ks x=true)∧(∀ s∈ss',(look st.heap s).isSome=true) ∧
     (∀ (i:Nat) (x:PV) (j:Nat) (c:PV),xs'[i]?=some x→x.cells[j]?=some c→VR w (aY M β ss') c (C'.getD (i*ks.length+j) undef))
  | [],cps,xs,ss,C,xs',ss',hp,hC,hs,hl,hc,hf=>by
   have:cps=[]:=by have:=hp.1;simpa using this.symm
   subst this
   simp[QZ]at hf;obtain⟨rfl,rfl⟩:=hf
   exact⟨C,rfl,hC,rfl,hs,hl,hc⟩
  | (n,v)::r,[],xs,ss,C,xs',ss',hp,hC,hs,hl,hc,hf=>by have:=hp.1;simp at this
  | (n,v)::r,(m,c)::cr,xs,ss,C,xs',ss',hp,hC,hs,hl,hc,hf=>by
   have hp0:=hp.2 0 (n,v) (m,c) (by simp) (by simp)
   simp only at hp0
   obtain⟨rfl,hv⟩:=hp0
   simp only[QZ]at hf
   cases hd:deep h' v with
   | none=>rw[hd]at hf;cases hf
   | some p =>
    obtain⟨x,s1⟩:=p
    rw[hd]at hf
    simp only at hf
    cases hb:(aA sa ks x&&Nat.blt n xs.length) with
    | false=>rw[hb]at hf;cases hf
    | true =>
     rw[hb]at hf
     simp only[cond_true]at hf
     simp only[Bool.and_eq_true]at hb
     obtain⟨hb1,hb2⟩:=hb
     have hb2:n<xs.length:=(Nat.blt_eq▸hb2:_)
     obtain⟨d1,d2⟩:=wz (fun s b h=>hh s b (hsub s b h)) hsub hd hv
     have hlen:=bY hb1
     have hcs:c.cells.size=ks.length∧∀ (j:Nat) (y:PV),x.cells[j]?=some y→VR w (aY M β s1) y (c.cells.getD j undef):=by
      cases x with
      | agg cs =>
       cases d1 with
       | agg _ vs hn hl2 hc2=>exact⟨by simpa [Value.cells,PV.cells] using hn.trans hlen,fun j y hj=>hc2 j y hj⟩
      | _ =>
       have e:=d1.DN rfl
       refine⟨by rw[e];simpa [PV.cells] using hlen,fun j y hj=>?_⟩
       rw[e]
       cases j with
       | zero=>simp[PV.cells]at hj;subst hj;simpa using d1
       | succ j=>simp[PV.cells]at hj
     have hroom:n*ks.length+ks.length≤C.size:=by
      rw[hC,← Nat.succ_mul]
      exact Nat.mul_le_mul_right _ hb2
     obtain⟨f1,f2⟩:=foldl_set c.cells.toList (n*ks.length) 0 C (by simp;omega)
     obtain⟨C',k1,k2⟩:=Rt hh hsub r cr (xs.set n x) (ss++s1) ((c.cells.toList.zipIdx 0).foldl (fun cs (cj:Value × Nat)=>cs.setIfInBounds (n*ks.length+cj.2) cj.1) C) xs' ss'
      ⟨by simpa using hp.1,fun i p q h1 h2=>hp.2 (i+1) p q (by simpa using h1) (by simpa using h2)⟩ (by rw[f1];simpa using hC)
      (fun y hy=>by
        rcases List.mem_or_eq_of_mem_set hy with hy | rfl
        · exact hs y hy
        · exact hb1)
      (fun s hs'=>by
        rcases List.mem_append.1 hs' with hs' | hs'
        · exact hl s hs'
        · exact d2 s hs')
      (fun i y j c' hy hj=>by
        rw[f2]
        simp only[Nat.add_zero,Array.length_toList,Nat.sub_zero,hcs.1]
        by_cases hin:i=n
        · subst hin
          rw[List.getElem?_set_self hb2]at hy
          cases hy
          have hj':j<ks.length:=by have:=(List.getElem?_eq_some_iff.1 hj).1;omega
          rw[if_pos (by omega)]
          have e:i*ks.length+j-i*ks.length=j:=by omega
          rw[e,Array.toArray_toList]
          exact(hcs.2 j c' hj).more fun s hs=>by simp[hs]
        · rw[List.getElem?_set_ne (fun e=>hin e.symm)]at hy
          have hj':j<ks.length:=by
           have:=(List.getElem?_eq_some_iff.1 hj).1
           have:=bY (hs y (List.mem_of_getElem? hy));omega
          rw[if_neg ?_]
          · exact(hc i y j c' hy hj).more fun s hs=>by simp[hs]
          · rcases Nat.lt_or_gt_of_ne hin with hlt | hgt
            · have:(i+1)*ks.length≤n*ks.length:=Nat.mul_le_mul_right _ hlt
              rw[Nat.add_mul]at this;omega
            · have:(n+1)*ks.length≤i*ks.length:=Nat.mul_le_mul_right _ hgt
              rw[Nat.add_mul]at this;omega) hf
     refine⟨C',?_,k2.1,by rw[k2.2.1];simp,k2.2.2⟩
     rw[← k1]
     simp only[Instr.fill]
     rw[if_neg (by simp;omega)]
     rw[← Array.foldl_toList]
     simp[Array.toList_zipIdx]
theorem KL (ok : bP P T) (r : Rel w0 Pr M0 M β st a w) {h' : Nat → Option aI} (hsub : ∀ s b,h' s = some b → look st.heap s = some b) {t : TypeId} {len : Nat} {ps : List (Nat × AV)} {cs : Array (Nat × Value)}
    (hp:KD w M β (look st.heap) ps cs.toList):aO P w0 Pr M0 β st a w d (vF T h' d t len ps) (do pure (.value (← Instr.buildSlice t len cs))):=by
  unfold vF
  split
  · rename_i d e hu
    have hu:=ok.und hu
    split
    · rename_i z n hz hn
      obtain⟨i,v,h1,h2,h3⟩:=ok.zero hz
      obtain⟨i',q1,q2⟩:=ok.size hn
      rw[h1]at q1;cases q1
      refine aO.chk fun hb=>?_
      simp only[Bool.and_eq_true,beq_iff_eq]at hb
      obtain⟨⟨b1,b2⟩,b3⟩:=hb
      have b3:=Nat.le_of_ble_eq_true b3
      subst b1
      split
      · rename_i xs ss hf
        have hzc:=vI h3 b2
        obtain⟨zc,z1,z2,z3,z4⟩:=uG h3
        have hstart : ∀ (i : Nat) (x : PV) (j : Nat) (c : PV),(List.replicate len z)[i]? = some x → x.cells[j]? = some c →
            VR w (aY M β []) c (((Array.range (len*(aB T e).2.length)).map (v.cells[·%v.cells.size]!)).getD (i*(aB T e).2.length+j) undef):=by
          intro i x j c hx hj
          have hi:=(List.getElem?_eq_some_iff.1 hx).1
          simp at hi
          rw[List.getElem?_replicate,if_pos hi]at hx
          cases hx
          have hj':=(List.getElem?_eq_some_iff.1 hj).1
          rw[bY b2]at hj'
          rw[BZ hzc hi hj']
          exact z4 _ _ j c (by rw[← z1];exact hj)
        obtain⟨C',k1,k2,k3,k4,k5,k6⟩:=Rt (w:=w) (M:=M) (β:=β) (st:=st) r.heap hsub ps cs.toList (List.replicate len z) [] _ xs ss hp (by simp) (fun x hx=>by simp at hx;rw[hx.2];exact b2) (by simp) hstart hf
        simp at k3
        have run:(Instr.buildSlice t len cs).run P w=.ok (.slice (some ⟨w.heap.size,0,none⟩) len len) (w.alloc (.cells C' e)):=by
         simp only[Instr.buildSlice,Sem.run_bind,aZ hu,Result.andThen_ok,fE h1,q2]
         rw[if_neg (by omega)]
         by_cases h0:len*(aB T e).2.length=0
         · rw[if_pos h0]
           simp only[Sem.run_bind,Sem.run_pure,Result.andThen_ok]
           have e0:(Array.range (len*(aB T e).2.length)).map ((#[]:Array Value)[·%(#[]:Array Value).size]!)=(Array.range (len*(aB T e).2.length)).map (v.cells[·%v.cells.size]!):=by
            rw[h0];simp
           rw[e0,k1]
           simp[newRow]
         · rw[if_neg h0]
           simp only[Sem.run_bind,nY h1 h2,Sem.run_pure,Result.andThen_ok,k1]
           simp[newRow]
        refine⟨fun α k q hk=>?_⟩
        refine⟨_,.value (.slice (some ⟨w.heap.size,0,none⟩) len len),.slice (some ⟨w.heap.size,0,none⟩) len len,w.alloc (.cells C' e),aY M β ss,fun x=>if x=d then some (w.heap.size,0) else β x,hk,by simp[run],.inl rfl,fun ac5=>⟨?_,oG ac5,eU (lM (.inl (lW ac5 _ (by simp))))⟩⟩
        have hfz:=(jh ac5).2
        have:=r.fresh (d:=d) (blk:=.arr (aB T e).1 (aB T e).2 xs) (v:=.slice d (aB T e).2.length 0 len) (c:=.slice (some ⟨w.heap.size,0,none⟩) len len) (w':=w.alloc (.cells C' e)) (b:=w.heap.size) (o:=0) hfz k5 (by simp) rfl rfl rfl (fun k hk=>alloc_old hk) (Nat.le_refl _) (by simp) ?_
        · exact this
        · intro β' h' nP hh _ hv
          refine⟨.arr _ _ xs w.heap.size 0 C' e (0,0) nP lZ (by omega) (o7 _) k4 fun i x j c hx hj=>?_,?_⟩
          · rw[Nat.zero_add];exact hv _ _ (k6 i x j c hx hj)
          · have:=AR.slice (w:=w.alloc (.cells C' e)) (M:=aY M β ss) (β:=β') (h:=h') d 0 len _ _ xs w.heap.size 0 len hh (by omega) nP (Nat.le_refl _) (Room.mk (fr:=(0,0)) lZ (by rw[Nat.zero_add,Nat.zero_add,k2,k3];exact Nat.le_refl _) (o7 _))
            simpa using this
      · exact aO.fail
    · exact aO.fail
  · exact aO.fail
end
end Go.Skm
namespace Go.Skm
section
variable {P:Program} {T:Tab} {w0:Base} {Pr M0 M:Nat→Prop} {β:Nat→Option (Nat × Nat)} {st:St} {a:Act} {w:World} {d:Option Nat}
theorem MP (ok : bP P T) (r : Rel w0 Pr M0 M β st a w) {t : TypeId} {x y : AV} {c1 c2 : Value} (hx : AR w M β (look st.heap) x c1) (hy : AR w M β (look st.heap) y c2) :
    aO P w0 Pr M0 β st a w d (wU T d t x y) (do pure (.value (← Instr.makeSlice t c1 c2))):=by
  unfold wU
  split
  · rename_i d e k1 l k2 c hu
    have hu:=ok.und hu
    rw[hx.zK,hy.zK]
    split
    · rename_i z n tK hz hn hby
      obtain⟨i,v,h1,h2,h3⟩:=ok.zero hz
      obtain⟨i',q1,q2⟩:=ok.size hn
      rw[h1]at q1;cases q1
      obtain⟨i',q1,q3⟩:=ok.bytes hby
      rw[h1]at q1;cases q1
      refine aO.chk fun hb=>aO.chk fun hlc=>?_
      simp only[Bool.and_eq_true,beq_iff_eq,decide_eq_true_eq]at hb hlc
      obtain⟨⟨b1,b2⟩,b3⟩:=hb
      have b3:=Nat.le_of_ble_eq_true b3
      obtain⟨l0,l1,l2⟩:=hlc
      subst b1
      have hzc:=vI h3 b2
      obtain⟨zc,z1,z2,z3,z4⟩:=uG h3
      have wl:IntKind.i64.wrap l=l:=IntWalk.i64_in _ (by omega)
      have wc:IntKind.i64.wrap c=c:=IntWalk.i64_in _ (by omega)
      have big:¬ (2:Int) ^ 48<(i.bytes:Int)*c:=by
       have h1:(i.bytes:Int)*c≤16384*2147483648:=Int.mul_le_mul (by omega) l2 (by omega) (by omega)
       have h2:(16384:Int)*2147483648<2 ^ 48:=by decide
       omega
      have run:(Instr.makeSlice t (.int k1 l) (.int k2 c)).run P w=.ok (.slice (some ⟨w.heap.size,0,none⟩) l.toNat c.toNat) (w.alloc (.cells ((Array.range (c.toNat*(aB T e).2.length)).map (v.cells[·%v.cells.size]!)) e)):=by
       simp only[Instr.makeSlice,Sem.run_bind,aZ hu,Result.andThen_ok,asInt,asIntOf,Sem.run_pure,nX h1,wl,wc]
       have c1:(decide (c<0)||decide ((i.bytes:Int)*c > 2 ^ 48)||decide (l<0)||decide (l > c))=false:=by
        simp only[Bool.or_eq_false_iff,decide_eq_false_iff_not]
        refine⟨⟨⟨by omega,big⟩,by omega⟩,by omega⟩
       rw[if_neg (by simpa using c1)]
       simp only[Sem.run_bind,run_askRoom,Result.andThen_ok,fE h1,q2]
       by_cases h0:c.toNat*(aB T e).2.length=0
       · rw[if_pos h0]
         have e0:(Array.range (c.toNat*(aB T e).2.length)).map ((#[]:Array Value)[·%(#[]:Array Value).size]!)=(Array.range (c.toNat*(aB T e).2.length)).map (v.cells[·%v.cells.size]!):=by
          rw[h0];simp
         simp only[Sem.run_pure,Result.andThen_ok,newRow,Sem.run_bind,run_newObj,e0]
         rfl
       · rw[if_neg h0]
         simp only[Sem.run_bind,nY h1 h2,Sem.run_pure,Result.andThen_ok]
         simp[newRow]
      have hr:=r.Un (ss:=[]) rfl (by simp) (d:=d) (sa:=(aB T e).1) (ks:=(aB T e).2) (xs:=List.replicate l.toNat z)
       (C:=(Array.range (c.toNat*(aB T e).2.length)).map (v.cells[·%v.cells.size]!)) (e:=e) (fr:=(0,0)) (len:=l.toNat) (cap:=c.toNat) (o7 _)
       (fun x hx=>by simp at hx;rw[hx.2];exact b2) (by simp) (by omega) (by simp) (by simp;exact Nat.mul_le_mul_right _ (by omega))
       (fun i x j c' hx hj=>by
         have hi:i<l.toNat:=by simpa using (List.getElem?_eq_some_iff.1 hx).1
         rw[List.getElem?_replicate,if_pos hi]at hx
         cases hx
         have hj':=(List.getElem?_eq_some_iff.1 hj).1
         rw[bY b2]at hj'
         rw[BZ hzc (by omega) hj']
         exact z4 _ _ j c' (by rw[← z1];exact hj))
      exact aO.ret (nv:=.value (.slice (some ⟨w.heap.size,0,none⟩) l.toNat c.toNat)) (by simp[run]) (.inl rfl) (fun _=>hr) (fun hf=>oG hf)
    · exact aO.fail
  · exact aO.fail
theorem Xp {b o n k : Nat} {f : Nat → Nat → Value} (hc : ∀ i j,i < n → j < k → w.cell? ⟨b,o + i * k + j,none⟩ = some (f i j)) :
    ∃ C:Array Value,(loadCells ⟨b,o,none⟩ (n*k)).run P w=.ok C w∧C.size=n*k∧∀ i j,i<n→j<k→C.getD (i*k+j) undef=f i j:=by
  refine⟨_,uh (f:=fun q=>f (q / k) (q%k)) ?_,by simp,?_⟩
  · intro q hq
    have hk:0<k:=Nat.pos_of_ne_zero fun e=>by subst e;simp at hq
    have h1:q / k<n:=(Nat.div_lt_iff_lt_mul hk).2 hq
    have h2:q%k<k:=Nat.mod_lt _ hk
    have:=hc (q / k) (q%k) h1 h2
    have e:q / k*k+q%k=q:=by rw[Nat.mul_comm];exact Nat.div_add_mod q k
    rw[← this,Nat.add_assoc,e]
  · intro i j hi hj
    have hlt:i*k+j<n*k:=by
     have:(i+1)*k≤n*k:=Nat.mul_le_mul_right _ hi
     rw[Nat.add_mul]at this;omega
    unfold Array.getD
    rw[dif_pos (by simpa using hlt)]
    simp only[Array.getInternal_eq_getElem,Array.getElem_ofFn]
    congr 1
    · rw[Nat.mul_comm,Nat.mul_add_div (by omega)]
      rw[Nat.div_eq_of_lt hj];rfl
    · exact Rq hj
def KN (P:Program) (w:World) (M:Nat→Prop) (a:Bool) (ks:List Kd) (m:Nat) (ys:List PV) (c:Value):Prop :=
 (Builtin.lenOf c).run P w=.ok m w∧ys.length=m∧(∀ y∈ys,aA a ks y=true)∧∀ n,n≤m →
   ∃ C:Array Value,(Builtin.firstCells ks.length n c).run P w=.ok C w∧C.size=n*ks.length∧∀ (i:Nat) (x:PV) (j:Nat) (cc:PV),i<n→ys[i]?=some x→x.cells[j]?=some cc→VR w M cc (C.getD (i*ks.length+j) undef)
theorem yC {a : Bool} {ks : List Kd} {xs : List PV} (b o cap : Nat) (f : Nat → Nat → Value) (h1 : ∀ (i : Nat) (x : PV) (j : Nat) (c : PV),xs[i]? = some x → x.cells[j]? = some c → w.cell? ⟨b,o + i * ks.length + j,none⟩ = some (f i j))
    (h2:∀ (i:Nat) (x:PV) (j:Nat) (c:PV),xs[i]?=some x→x.cells[j]?=some c→VR w M c (f i j)) (h3:∀ x∈xs,aA a ks x=true):KN P w M a ks xs.length xs (.slice (some ⟨b,o,none⟩) xs.length cap):=by
  refine⟨by simp[Builtin.lenOf],rfl,h3,fun n hn=>?_⟩
  obtain⟨C,g1,g2,g3⟩:=Xp (P:=P) (w:=w) (b:=b) (o:=o) (n:=n) (k:=ks.length) (f:=f) (fun i j hi hj=>by
   have hx:xs[i]?=some xs[i]:=List.getElem?_eq_getElem (by omega)
   have hl:=bY (h3 _ (List.mem_of_getElem? hx))
   exact h1 i _ j _ hx (List.getElem?_eq_getElem (by omega)))
  refine⟨C,by simpa [Builtin.firstCells] using g1,g2,fun i x j cc hi hx hj=>?_⟩
  have hl:=bY (h3 _ (List.mem_of_getElem? hx))
  have:=(List.getElem?_eq_some_iff.1 hj).1
  rw[g3 i j hi (by omega)]
  exact h2 i x j cc hx hj
theorem mW {a:Bool} {ks:List Kd} (base:Option Addr) (cap:Nat):KN P w M a ks 0 [] (.slice base 0 cap):=by
 refine⟨by simp[Builtin.lenOf],rfl,by simp,fun n hn=>?_⟩
 have:n=0:=by simpa using hn
 subst this
 refine⟨#[],?_,by simp,fun i x j cc hi=>by omega⟩
 cases base<;>simp[Builtin.firstCells,loadCells,loadCellsFrom]
theorem GH {v:PV} {c:Value} {a:Bool} {ks:List Kd} {xs:List PV} (hv:v=.list a ks xs∨v=.full a ks xs) (h:VR w M v c):KN P w M a ks xs.length xs c:=by
 rcases hv with rfl | rfl
 · cases h with
   | list _ _ _ b o cap f q1 q2 q3 q4 q5=>exact yC b o cap f q3 q4 q5
   | kD _ _ base cap=>exact mW base cap
 · cases h with
   | full _ _ _ b o f q1 q3 q4 q5=>exact yC b o _ f q3 q4 q5
   | H9 _ _ base=>exact mW base 0
theorem yD (r : Rel w0 Pr M0 M β st a w) {h' : Nat → Option aI} (hsub : ∀ s b,h' s = some b → look st.heap s = some b) {y : AV} {c : Value} {s2 : Option (Bool × List Kd)} {m : Nat} {ys : List PV}
    (hy:AR w M β (look st.heap) y c) (hs:NQ h' y=some (s2,m,ys)) {sa:Bool} {ks:List Kd} (hsame:yS s2 sa ks=true):KN P w M sa ks m ys c:=by
  have same:∀ (a':Bool) (ks':List Kd),yS (some (a',ks')) sa ks=true→a'=sa∧ks'=ks:=by
   intro a' ks' h
   simp only[yS,Bool.and_eq_true,beq_iff_eq]at h
   exact⟨h.1.symm,(Kd.jY _ _ h.2).symm⟩
  unfold NQ at hs
  split at hs
  · rename_i s z off len
    split at hs
    · rename_i a' ks' xs hl
      have hl:=hsub _ _ hl
      cases hs
      obtain⟨rfl,rfl⟩:=same _ _ hsame
      cases hy with
      | slice _ _ _ a1 Uo xs1 b o cap p1 p2 p3 p4 p5 =>
       rw[hl]at p1;cases p1
       have hlen:((xs.drop off).take m).length=m:=by simp;omega
       cases r.heap s _ hl with
       | fM =>
        have:m=0:=by simp at p2;omega
        subst this
        simpa using mW (P:=P) (w:=w) (M:=M) (a:=a') (ks:=ks') (some ⟨b,o+off*ks'.length,none⟩) cap
       | arr _ _ _ b' o' C e fr g1 g2 g3 g4 g5 g6 =>
        rw[p3]at g1;cases g1
        have:=yC (P:=P) (w:=w) (M:=M) (a:=a') (ks:=ks') (xs:=(xs.drop off).take m) b (o+off*ks'.length) cap (fun i j=>C.getD (o+(off+i)*ks'.length+j) undef)
         (fun i x j c hx hj=>by
           have hx:=ug hx
           have hi:=(List.getElem?_eq_some_iff.1 hx).1
           have hj':j<ks'.length:=by
            have:=bY (g5 x (List.mem_of_getElem? hx))
            have:=(List.getElem?_eq_some_iff.1 hj).1
            omega
           have h1:(off+i+1)*ks'.length≤xs.length*ks'.length:=Nat.mul_le_mul_right _ hi
           rw[Nat.add_mul]at h1
           have h2:o+off*ks'.length+i*ks'.length+j=o+(off+i)*ks'.length+j:=by rw[Nat.add_mul];omega
           rw[h2]
           exact uj g2 (by omega))
         (fun i x j c hx hj=>g6 _ x j c (ug hx) hj) (fun x hx=>g5 x (List.mem_of_mem_drop (List.mem_of_mem_take hx)))
        rwa[hlen]at this
      | sliceE _ _ a1 Uo xs1 base p1 p2=>simpa using mW (P:=P) (w:=w) (M:=M) (a:=a') (ks:=ks') base 0
    · cases hs
  · rename_i s off len
    split at hs
    · rename_i cs hl
      have hl:=hsub _ _ hl
      split at hs
      · rename_i kd vs hb
        cases hs
        obtain⟨rfl,rfl⟩:=same _ _ hsame
        obtain⟨e1,e2⟩:=KH hb
        subst e1
        cases hy with
        | bslice _ _ _ cs1 b o cap p1 p2 p3 p4 =>
         rw[hl]at p1;cases p1
         simp only[List.length_map]at p2
         have hlen:((vs.drop off).take m).length=m:=by simp;omega
         have leaf:∀ v∈vs,v.cells=[v]:=fun v hv=>by
          have:=iL (e2 v hv)
          cases v<;>first | rfl | simp[PV.leaf]at this
         cases r.heap s _ hl with
         | box _ b' o' C e fr g1 g2 g3 g4 g5 g6 =>
          rw[p3]at g1;cases g1
          simp only[List.length_map]at g3
          have:=yC (P:=P) (w:=w) (M:=M) (a:=false) (ks:=[kd]) (xs:=(vs.drop off).take m) b (o+off) cap (fun i j=>C.getD (o+(off+i)) undef)
           (fun i x j c hx hj=>by
             have hx:=ug hx
             have hi:=(List.getElem?_eq_some_iff.1 hx).1
             rw[leaf x (List.mem_of_getElem? hx)]at hj
             have hj0:j=0:=by
              have:=(List.getElem?_eq_some_iff.1 hj).1
              simpa using this
             subst hj0
             have:=uj (w:=w) g2 (i:=o+(off+i)) (by omega)
             rw[← this];congr 2;simp;omega)
           (fun i x j c hx hj=>by
             have hx:=ug hx
             rw[leaf x (List.mem_of_getElem? hx)]at hj
             have hj0:j=0:=by
              have:=(List.getElem?_eq_some_iff.1 hj).1
              simpa using this
             subst hj0
             simp at hj;subst hj
             have:=g6 (off+i) (.p x) (by simp[hx])
             cases this;assumption)
           (fun x hx=>by simpa [aA] using e2 x (List.mem_of_mem_drop (List.mem_of_mem_take hx)))
          rwa[hlen]at this
        | bsliceE _ _ cs1 base p1 p2=>simpa using mW (P:=P) (w:=w) (M:=M) (a:=false) (ks:=[kd]) base 0
      · cases hs
    · cases hs
  · cases hs
    obtain⟨rfl,rfl⟩:=same _ _ hsame
    cases hy with
    | p _ _ hy=>exact GH (.inl rfl) hy
  · cases hs
    obtain⟨rfl,rfl⟩:=same _ _ hsame
    cases hy with
    | p _ _ hy=>exact GH (.inr rfl) hy
  · cases hs
    cases hy with
    | p _ _ hy=>cases hy with
    | nil =>
     exact mW none 0
  · rename_i s
    cases hs
    obtain⟨rfl,rfl⟩:=same _ _ hsame
    rw[hy.Kv]
    refine⟨by simp[Builtin.lenOf],by simp,?_,?_⟩
    · intro y hy
      obtain⟨b,_,rfl⟩:=List.mem_map.1 hy
      rfl
    · intro n hn
      refine⟨(s.extract 0 n).data.map fun b=>.int .u8 b.toNat,rfl,?_,?_⟩
      · have : (s.extract 0 n).data.size = n := by
          show (s.extract 0 n).size=n
          simp[ByteArray.size_extract];omega
        rw[Array.size_map,this];simp
      · intro i x j cc hi hx hj
        rw[List.getElem?_map]at hx
        cases hb:s.data.toList[i]? with
        | none=>rw[hb]at hx;simp at hx
        | some q =>
         rw[hb]at hx;simp at hx;subst hx
         have hj0:j=0:=by
          have:=(List.getElem?_eq_some_iff.1 hj).1
          simpa [PV.cells] using this
         subst hj0
         simp[PV.cells]at hj;subst hj
         have:((s.extract 0 n).data.map fun b=>Value.int .u8 b.toNat).getD (i*1+0) undef=.int .u8 q.toNat:=by
          have h1:(s.extract 0 n).data[i]?=some q:=by
           rw[ByteArray.data_extract,Array.getElem?_extract]
           rw[if_pos (by
            have:s.data.size=s.size:=rfl
            omega)]
           simpa using hb
          rw[Array.getD_eq_getD_getElem?,Array.getElem?_map,Nat.mul_one,Nat.add_zero,h1];rfl
         show VR w M _ (((s.extract 0 n).data.map fun b=>Value.int .u8 b.toNat).getD (i*1+0) undef)
         rw[this]
         exact .int _ _
  · cases hs
end
end Go.Skm
namespace Go.Skm
section
variable {P:Program} {T:Tab} {w0:Base} {Pr M0 M:Nat→Prop} {β:Nat→Option (Nat × Nat)} {st:St} {a:Act} {w:World} {d:Option Nat}
theorem Rel.drew (r:Rel w0 Pr M0 M β st a w):Rel w0 Pr M0 M β st a w.drew :=
 r.world (Nat.le_refl _) rfl rfl rfl (fun _ _ _=>rfl) (fun _ _ _ _ _ hr=>hr) (fun _ h=>h) (fun _ h=>.inl h)
def AY:TypeDesc→Bool
 | .int _=>true
 | _=>false
def vJ (P:Program) (w:World) (M:Nat→Prop) (t2:TypeId) (v:Value) (a:Bool) (ks:List Kd) (m:Nat) (ys:List PV) (c:Value):Prop :=
 ys.length=m∧(∀ y∈ys,aA a ks y=true)∧∃ (zeros:Bool) (dd:TypeDesc) (C:Array Value),P.underlying t2=some dd∧AY dd=zeros ∧
  C.size=m*ks.length∧(∀ (i:Nat) (x:PV) (j:Nat) (cc:PV),ys[i]?=some x→x.cells[j]?=some cc→VR w M cc (C.getD (i*ks.length+j) undef)) ∧
  (match zeros with
   | true=>∃ k,c=.int k (m:Int)∧(m:Int)≤2147483648∧(m*ks.length=0→C=#[])∧(m*ks.length≠0→C=Builtin.zeroCells v.cells m)
   | false=>(Builtin.lenOf c).run P w=.ok m w∧(Builtin.firstCells ks.length m c).run P w=.ok C w)
def Ru (P:Program) (base:Option Addr) (n:Nat) (C:Array Value) (w w1:World):Prop :=
 match base with
 | some a=>(storeCells (a.add n) C.toList).run P w=.ok () w1
 | none=>w1=w
def Zu (P:Program) (v:Value) (ks:List Kd) (m:Nat) (c:Value) (C:Array Value) (zeros:Bool) (w:World):Prop :=
 match zeros with
 | true=>∃ k,c=.int k (m:Int)∧(m:Int)≤2147483648∧(m*ks.length=0→C=#[])∧(m*ks.length≠0→C=Builtin.zeroCells v.cells m)
 | false=>(Builtin.lenOf c).run P w=.ok m w
theorem Xq (n:Nat):∀ (r c:Nat),Builtin.growBy n r c≤max c (2*n+192):=by
 intro r
 induction r with
 | zero=>intro c;simp[Builtin.growBy];omega
 | succ r ih =>
  intro c
  unfold Builtin.growBy
  split
  · omega
  · have:=ih (c+(c+768) / 4)
    omega
theorem DY (n c:Nat) (h:c<n):Builtin.nextslicecap n c≤2*n+192:=by
 unfold Builtin.nextslicecap
 split
 · omega
 · split
   · omega
   · have:=Xq n 4 c
     omega
theorem NZ {n c b:Nat} (h:c<n) (hn:n≤2147483648) (hb:b≤16384):¬ Builtin.nextslicecap n c*b > 2 ^ 48:=by
 have h1:=DY n c h
 have q:Builtin.nextslicecap n c*b≤4294967488*16384:=Nat.mul_le_mul (by omega) hb
 exact Nat.not_lt.2 (Nat.le_trans q (by decide))
theorem vJ.one {t2 : TypeId} {v : Value} {sa : Bool} {ks : List Kd} {m : Nat} {ys : List PV} {c : Value} (h : vJ P w M t2 v sa ks m ys c) : ∀ (C : Array Value),C.size = m * ks.length →
    (∀ (i:Nat) (x:PV) (j:Nat) (cc:PV),ys[i]?=some x→x.cells[j]?=some cc→VR w M cc (C.getD (i*ks.length+j) undef))→∀ u∈C.toList,u.oneCell'=true:=by
  intro C h1 h2 u hu
  obtain⟨q,hq⟩:=List.mem_iff_getElem?.1 hu
  have hlt:q<m*ks.length:=by
   have:=(List.getElem?_eq_some_iff.1 hq).1
   simpa [h1] using this
  have hk:0<ks.length:=Nat.pos_of_ne_zero fun e=>by rw[e]at hlt;simp at hlt
  have g1:q / ks.length<m:=(Nat.div_lt_iff_lt_mul hk).2 hlt
  have g2:q%ks.length<ks.length:=Nat.mod_lt _ hk
  have hx:ys[q / ks.length]?=some (ys[q / ks.length]'(by rw[h.1];exact g1)):=List.getElem?_eq_getElem _
  have hs:=h.2.1 _ (List.mem_of_getElem? hx)
  have hkd:ks[q%ks.length]?=some ks[q%ks.length]:=List.getElem?_eq_getElem g2
  obtain⟨cc,p1,p2,_⟩:=ql hs hkd
  have:=h2 _ _ _ _ hx p1
  have e:q / ks.length*ks.length+q%ks.length=q:=by rw[Nat.mul_comm];exact Nat.div_add_mod q ks.length
  rw[e]at this
  have e2:C.getD q undef=u:=by
   have:C[q]?=some u:=by simpa using hq
   simp[this]
  rw[e2]at this
  exact this.one (iL p2)
theorem DZ {ts : Array TypeId} {ty t t2 e : TypeId} {i : TypeInfo} {v : Value} {ks : List Kd} {base : Option Addr} {len cap m : Nat} {c : Value} {dd : TypeDesc} {zeros : Bool} {C : Array Value} {w1 : World} {nv : Value}
    (h0:ts[0]?=some t) (h1:ts[1]?=some t2) (hu:P.underlying t=some (.slice e)) (hi:P.info? e=some i) (hz:i.zero=some v) (hsz:i.size=ks.length) (hby:i.bytes≤16384)
    (hd:P.underlying t2=some dd) (hzz:AY dd=zeros) (hm:len+m≤2147483648)
    (hn:∀ w,Zu P v ks m c C zeros w)
    (hF:∀ w',(w'=w∨w'=w.drew)→zeros=false→(Builtin.firstCells ks.length m c).run P w'=.ok C w')
    (hfit:len+m≤cap→nv=.slice base (len+m) cap∧Ru P base (len*ks.length) C w w1)
    (hgrow:cap<len+m→∀ qO,len+m≤qO→qO=(Question.appendCap (len+m) cap e).cut (w.tape w.drawn (.appendCap (len+m) cap e))→∃ old:Array Value,(Builtin.firstCells ks.length len (.slice base len cap)).run P w.drew=.ok old w.drew ∧
      nv=.slice (some ⟨w.heap.size,0,none⟩) (len+m) qO∧w1=w.drew.alloc (.cells (old++C++Builtin.zeroCells v.cells (qO-(len+m))) e)) :
    (Builtin.append_ ts ty #[.slice base len cap,c]).run P w=.ok nv w1:=by
  have hn:=hn w
  unfold Builtin.append_
  simp only[h0,h1,show (#[Value.slice base len cap,c]:Array Value)[0]?=some (.slice base len cap) from rfl,show (#[Value.slice base len cap,c]:Array Value)[1]?=some c from rfl]
  simp only[Sem.run_bind,aZ hu,Result.andThen_ok,fE hi,aZ hd,Sem.run_pure]
  cases dd with
  | int k0 =>
   simp only[AY]at hzz
   subst hzz
   simp only[Zu]at hn
   obtain⟨k,rfl,hm2,q1,q2⟩:=hn
   have wl:IntKind.i64.wrap (m:Int)=m:=IntWalk.i64_in _ (by omega)
   have big:¬ (m:Int)*(i.bytes:Int) > 2 ^ 48:=by
    have q1:(m:Int)*(i.bytes:Int)≤2147483648*16384:=Int.mul_le_mul hm2 (by omega) (by omega) (by omega)
    have q2:(2147483648:Int)*16384<2 ^ 48:=by decide
    omega
   have happ:∀ w',(if m*ks.length=0 then pure #[] else do pure (Builtin.zeroCells (← zeroValue e).cells m):Sem (Array Value)).run P w'=.ok C w':=by
    intro w'
    by_cases h0:m*ks.length=0
    · rw[if_pos h0,q1 h0];rfl
    · rw[if_neg h0]
      simp only[Sem.run_bind,nY hi hz,Result.andThen_ok,Sem.run_pure]
      rw[q2 h0]
   simp only[if_true,asInt,asIntOf,Sem.run_bind,Sem.run_pure,Result.andThen_ok,wl]
   rw[if_neg (by omega)]
   simp only[Sem.run_bind,Result.andThen_ok,nX hi]
   rw[if_neg big]
   simp only[Sem.run_bind,Sem.run_pure,Result.andThen_ok,Int.toNat_natCast]
   by_cases KO:len+m≤cap
   · obtain⟨f1,f2⟩:=hfit KO
     simp only[if_pos KO,Bool.not_true,Bool.false_eq_true,if_false,hsz,happ,Sem.run_bind,Result.andThen_ok]
     cases base with
     | none=>simp only[Ru]at f2;subst f2;rw[f1];rfl
     | some ad=>simp only[Ru]at f2;simp only[Sem.run_bind,f2,Result.andThen_ok,Sem.run_pure,f1]
   · have hlt:cap<len+m:=by omega
     have hcap:=DY (len+m) cap hlt
     have g1:¬ (((len+m:Nat):Int) > IntKind.i64.max∧(True∨i.bytes=0)):=by
      have:IntKind.i64.max=9223372036854775807:=by decide
      rw[this];omega
     have g2:¬ Builtin.nextslicecap (len+m) cap*i.bytes > 2 ^ 48:=NZ hlt hm hby
     simp only[if_neg KO,Sem.run_bind,nX hi,Result.andThen_ok]
     rw[if_neg g1]
     simp only[Sem.run_bind,nX hi,Result.andThen_ok]
     rw[if_neg g2]
     simp only[Sem.run_bind,Sem.run_pure]
     rw[run_choose]
     simp only[Question.forced,Bool.false_eq_true,if_false,Result.andThen_ok,World.drew_eq,nX hi,run_askRoom]
     have hcut:len+m≤(Question.appendCap (len+m) cap e).cut (w.tape w.drawn (.appendCap (len+m) cap e)):=Nat.le_add_right _ _
     generalize hnc:(Question.appendCap (len+m) cap e).cut (w.tape w.drawn (.appendCap (len+m) cap e))=qO at hcut
     obtain⟨old,o1,o2,o3⟩:=hgrow hlt qO hcut hnc.symm
     rw[hsz]
     simp only[o1,Result.andThen_ok]
     simp only[Bool.not_true,Bool.false_eq_true,if_false,happ,nY hi hz,Result.andThen_ok]
     simp only[newRow,Sem.run_bind,run_newObj,Result.andThen_ok,Sem.run_pure,World.alloc_eq]
     rw[o2,o3]
     rfl
  | _ =>
   simp only[AY]at hzz
   subst hzz
   simp only[Zu]at hn
   have happ:∀ w',(w'=w∨w'=w.drew)→(Builtin.firstCells ks.length m c).run P w'=.ok C w':=fun w' hw'=>hF w' hw' rfl
   have aeI:=happ w (.inl rfl)
   have aeJ:=happ w.drew (.inr rfl)
   simp only[Bool.false_eq_true,if_false,Sem.run_bind,hn,Result.andThen_ok]
   by_cases KO:len+m≤cap
   · obtain⟨f1,f2⟩:=hfit KO
     simp only[if_pos KO,Bool.not_false,if_true,hsz,aeI,Sem.run_bind,Result.andThen_ok]
     cases base with
     | none=>simp only[Ru]at f2;subst f2;rw[f1];rfl
     | some ad=>simp only[Ru]at f2;simp only[Sem.run_bind,f2,Result.andThen_ok,Sem.run_pure,f1]
   · have hlt:cap<len+m:=by omega
     have hcap:=DY (len+m) cap hlt
     have g1:¬ (((len+m:Nat):Int) > IntKind.i64.max∧(False∨i.bytes=0)):=by
      have:IntKind.i64.max=9223372036854775807:=by decide
      rw[this];omega
     have g2:¬ Builtin.nextslicecap (len+m) cap*i.bytes > 2 ^ 48:=NZ hlt hm hby
     simp only[if_neg KO,Sem.run_bind,nX hi,Result.andThen_ok]
     rw[if_neg g1]
     simp only[Sem.run_bind,nX hi,Result.andThen_ok]
     rw[if_neg g2]
     simp only[Sem.run_bind,Sem.run_pure]
     rw[run_choose]
     simp only[Question.forced,Bool.false_eq_true,if_false,Result.andThen_ok,World.drew_eq,nX hi,run_askRoom]
     have hcut:len+m≤(Question.appendCap (len+m) cap e).cut (w.tape w.drawn (.appendCap (len+m) cap e)):=Nat.le_add_right _ _
     generalize hnc:(Question.appendCap (len+m) cap e).cut (w.tape w.drawn (.appendCap (len+m) cap e))=qO at hcut
     obtain⟨old,o1,o2,o3⟩:=hgrow hlt qO hcut hnc.symm
     rw[hsz]
     simp only[o1,Result.andThen_ok]
     simp only[Bool.not_false,if_true,aeJ,nY hi hz,Result.andThen_ok]
     simp only[newRow,Sem.run_bind,run_newObj,Result.andThen_ok,Sem.run_pure,World.alloc_eq]
     rw[o2,o3]
     rfl
end
end Go.Skm
namespace Go.Skm
section
variable {P:Program} {T:Tab} {w0:Base} {Pr M0 M:Nat→Prop} {β:Nat→Option (Nat × Nat)} {st:St} {a:Act} {w:World} {d:Option Nat}
theorem Ur {A B : List PV} {ks : List Kd} {sa : Bool} {CA CB CR : Array Value} (hA : CA.size = A.length * ks.length) (hB : CB.size = B.length * ks.length) (hsB : ∀ x ∈ B,aA sa ks x = true) (hsA : ∀ x ∈ A,aA sa ks x = true)
    (cA:∀ (i:Nat) (x:PV) (j:Nat) (cc:PV),A[i]?=some x→x.cells[j]?=some cc→VR w M cc (CA.getD (i*ks.length+j) undef))
    (cB:∀ (i:Nat) (x:PV) (j:Nat) (cc:PV),B[i]?=some x→x.cells[j]?=some cc→VR w M cc (CB.getD (i*ks.length+j) undef)) :
    ∀ (i:Nat) (x:PV) (j:Nat) (cc:PV),(A++B)[i]?=some x→x.cells[j]?=some cc→VR w M cc ((CA++CB++CR).getD (i*ks.length+j) undef):=by
  intro i x j cc hx hj
  by_cases hi:i<A.length
  · rw[List.getElem?_append_left hi]at hx
    have hj':j<ks.length:=by
     have:=bY (hsA x (List.mem_of_getElem? hx))
     have:=(List.getElem?_eq_some_iff.1 hj).1
     omega
    have hlt:i*ks.length+j<CA.size:=by
     have:(i+1)*ks.length≤A.length*ks.length:=Nat.mul_le_mul_right _ hi
     rw[Nat.add_mul]at this;omega
    have e:(CA++CB++CR).getD (i*ks.length+j) undef=CA.getD (i*ks.length+j) undef:=by
     simp only[Array.getD_eq_getD_getElem?]
     rw[Array.getElem?_append_left (by simp;omega),Array.getElem?_append_left hlt]
    rw[e];exact cA i x j cc hx hj
  · rw[List.getElem?_append_right (by omega)]at hx
    have hi':=(List.getElem?_eq_some_iff.1 hx).1
    have hj':j<ks.length:=by
     have:=bY (hsB x (List.mem_of_getElem? hx))
     have:=(List.getElem?_eq_some_iff.1 hj).1
     omega
    have e0:i*ks.length+j=CA.size+((i-A.length)*ks.length+j):=by
     rw[hA]
     have:i=A.length+(i-A.length):=by omega
     conv=>lhs;rw[this,Nat.add_mul]
     omega
    have hlt:(i-A.length)*ks.length+j<CB.size:=by
     have:(i-A.length+1)*ks.length≤B.length*ks.length:=Nat.mul_le_mul_right _ hi'
     rw[Nat.add_mul]at this;omega
    have e:(CA++CB++CR).getD (i*ks.length+j) undef=CB.getD ((i-A.length)*ks.length+j) undef:=by
     simp only[Array.getD_eq_getD_getElem?]
     rw[e0,Array.getElem?_append_left (by simp;omega),Array.getElem?_append_right (by omega)]
     congr 2;omega
    rw[e];exact cB _ x j cc hx hj
theorem vK (zs:Array Value) (n:Nat):(Builtin.zeroCells zs n).size=n*zs.size:=by simp[Builtin.zeroCells]
theorem vJ.both {t2 : TypeId} {v : Value} {sa : Bool} {ks : List Kd} {m : Nat} {ys : List PV} {c : Value} (hB : vJ P w M t2 v sa ks m ys c) (hB' : vJ P w.drew M t2 v sa ks m ys c) :
    ∃ (zeros:Bool) (dd:TypeDesc) (C:Array Value),P.underlying t2=some dd∧AY dd=zeros∧C.size=m*ks.length ∧
     (∀ (i:Nat) (x:PV) (j:Nat) (cc:PV),ys[i]?=some x→x.cells[j]?=some cc→VR w M cc (C.getD (i*ks.length+j) undef)) ∧
     (∀ w',Zu P v ks m c C zeros w')∧∀ w',(w'=w∨w'=w.drew)→zeros=false→(Builtin.firstCells ks.length m c).run P w'=.ok C w':=by
  obtain⟨b1,b2,zeros,dd,CB,b3,b4,b5,b6,b7⟩:=hB
  obtain⟨_,_,zeros',dd',CB',b3',b4',b5',b6',b7'⟩:=hB'
  rw[b3]at b3';cases b3'
  rw[b4]at b4';subst b4'
  have hCC:CB=CB':=by
   cases zeros with
   | true =>
    obtain⟨k,rfl,_,q1,q2⟩:=b7
    obtain⟨k',_,_,q1',q2'⟩:=b7'
    by_cases h:m*ks.length=0
    · rw[q1 h,q1' h]
    · rw[q2 h,q2' h]
   | false =>
    have e1:=b7.2
    have e2:=b7'.2
    have draw:∀ (n:Nat) (c:Value),(∃ C,(Builtin.firstCells ks.length n c).run P w=.ok C w)→∀ C',(Builtin.firstCells ks.length n c).run P w.drew=.ok C' w.drew→(Builtin.firstCells ks.length n c).run P w=.ok C' w:=by
     intro n c ⟨C,hC⟩ C' hC'
     have loads:∀ (a:Addr) (k i:Nat) (acc:Array Value) (C C':Array Value),(loadCellsFrom a i k acc).run P w=.ok C w→(loadCellsFrom a i k acc).run P w.drew=.ok C' w.drew→C=C':=by
      intro a k
      induction k with
      | zero=>intro i acc C C' h h';simp[loadCellsFrom]at h h';rw[← h,← h']
      | succ k ih =>
       intro i acc C C' h h'
       simp only[loadCellsFrom,Sem.run_bind,run_load]at h h'
       rw[World.cell?_drew]at h'
       cases hc:w.cell? (a.add i) with
       | some x =>
        rw[hc]at h h'
        simp only[Result.andThen_ok]at h h'
        exact ih (i+1) (acc.push x) C C' h h'
       | none =>
        rw[hc]at h h'
        simp only at h h'
        have ef:w.drew.farLoad P (a.add i) false=w.farLoad P (a.add i) false:=rfl
        cases hf:w.farLoad P (a.add i) (Mode.plain==Mode.atomic) with
        | error x=>rw[hf]at h;simp at h
        | ok x =>
         have hf':w.drew.farLoad P (a.add i) (Mode.plain==Mode.atomic)=.ok x:=hf
         rw[hf]at h;rw[hf']at h'
         obtain⟨x1,x2⟩:=x
         simp only[Result.andThen_ok]at h h'
         exact ih (i+1) (acc.push x1) C C' h h'
     have:C=C':=by
      unfold Builtin.firstCells at hC hC'
      split at hC
      · exact loads _ _ _ _ _ _ hC hC'
      · simp only[Sem.run_pure,Result.ok.injEq]at hC hC';exact hC.1.symm.trans hC'.1
      · simp only[Sem.run_pure,Result.ok.injEq]at hC hC';exact hC.1.symm.trans hC'.1
      · simp at hC
     rw[← this];exact hC
    have:=draw m c ⟨CB,e1⟩ CB' e2
    rw[e1]at this
    cases this;rfl
  subst hCC
  refine⟨zeros,dd,CB,b3,b4,b5,b6,?_,?_⟩
  · intro w'
    cases zeros with
    | true=>exact b7
    | false =>
     simp only[Zu]
     have:=b7.1
     unfold Builtin.lenOf at this ⊢
     split at this<;>simp_all
  · intro w' hw' hz0
    subst hz0
    rcases hw' with rfl | rfl
    · exact b7.2
    · exact b7'.2
theorem zh {ts : Array TypeId} {ty t t2 e : TypeId} {i : TypeInfo} {v : Value} {sa : Bool} {ks : List Kd} {base : Option Addr} {len cap m : Nat} {c : Value} {A ys : List PV}
    (h0:ts[0]?=some t) (h1:ts[1]?=some t2) (hu:P.underlying t=some (.slice e)) (hi:P.info? e=some i) (hz:i.zero=some v) (hsz:i.size=ks.length) (hby:i.bytes≤16384) (hzs:v.cells.size=ks.length)
    (hm:len+m≤2147483648) (hA:KN P w.drew M sa ks len A (.slice base len cap)) (hB:vJ P w M t2 v sa ks m ys c) (hB':vJ P w.drew M t2 v sa ks m ys c) (hgr:cap<len+m) :
    ∃ (C:Array Value) (qO:Nat),(Builtin.append_ ts ty #[.slice base len cap,c]).run P w=.ok (.slice (some ⟨w.heap.size,0,none⟩) (len+m) qO) (w.drew.alloc (.cells C e))∧len+m≤qO∧C.size=qO*ks.length ∧
     (∀ x∈A++ys,aA sa ks x=true)∧(A++ys).length=len+m ∧
     ∀ (i:Nat) (x:PV) (j:Nat) (cc:PV),(A++ys)[i]?=some x→x.cells[j]?=some cc→VR w.drew M cc (C.getD (i*ks.length+j) undef):=by
  obtain⟨a1,a2,a3,a4⟩:=hA
  obtain⟨CA,p1,p2,p3⟩:=a4 len (Nat.le_refl _)
  have b1:=hB.1
  have b2:=hB.2.1
  obtain⟨zeros,dd,CB,b3,b4,b5,b6,b7,b8⟩:=hB.both hB'
  let qO:=(Question.appendCap (len+m) cap e).cut (w.tape w.drawn (.appendCap (len+m) cap e))
  have hcut:len+m≤qO:=Nat.le_add_right _ _
  refine⟨CA++CB++Builtin.zeroCells v.cells (qO-(len+m)),qO,?_,hcut,?_,?_,?_,?_⟩
  · refine DZ h0 h1 hu hi hz hsz hby b3 b4 hm (C:=CB) b7 b8 (fun h=>by omega) ?_
    intro _ akw h1 h2
    subst h2
    exact⟨CA,p1,rfl,rfl⟩
  · simp only[Array.size_append,p2,b5,vK,hzs]
    rw[← Nat.add_mul,← Nat.add_mul]
    congr 1;omega
  · intro x hx
    rcases List.mem_append.1 hx with hx | hx
    · exact a3 x hx
    · exact b2 x hx
  · simp[a2,b1]
  · have dr:∀ (v:PV) (c:Value),VR w M v c→VR w.drew M v c:=fun v c h=>VR.mono (w:=w) (w':=w.drew) (M':=M) (fun b hb=>⟨hb,rfl⟩) h
    exact Ur (by rw[p2,a2]) (by rw[b5,b1]) b2 a3 (fun i x j cc hx hj=>p3 i x j cc (by have:=(List.getElem?_eq_some_iff.1 hx).1;omega) hx hj) (fun i x j cc hx hj=>dr _ _ (b6 i x j cc hx hj))
end
end Go.Skm
namespace Go.Skm
section
variable {P:Program} {T:Tab} {w0:Base} {Pr M0 M:Nat→Prop} {β:Nat→Option (Nat × Nat)} {st:St} {a:Act} {w:World} {d:Option Nat}
theorem Rel.VP (r : Rel w0 Pr M0 M β st a w) {d : Nat} {sa : Bool} {ks : List Kd} {xs : List PV} {C : Array Value} {e : TypeId} {len cap : Nat}
    (hs:∀ x∈xs,aA sa ks x=true) (hlen:len≤xs.length) (hcap:len≤cap) (hC:cap*ks.length≤C.size) (hX:xs.length*ks.length≤C.size)
    (hc:∀ (i:Nat) (x:PV) (j:Nat) (c:PV),xs[i]?=some x→x.cells[j]?=some c→VR w.drew M c (C.getD (i*ks.length+j) undef)) :
    Rel w0 Pr M0 (aY M β []) (fun x=>if x=d then some (w.heap.size,0) else β x) (st.apply (some d) { val:=.slice d ks.length 0 len,lJ:=[(d,.arr sa ks xs)],new:=[d] }) (a.put (some d) (.slice (some ⟨w.heap.size,0,none⟩) len cap)) (w.drew.alloc (.cells C e)) :=
  r.drew.Un (ss:=[]) rfl (by simp) (fr:=(0,0)) (o7 C) hs hlen hcap hC hX fun i x j c hx hj=>(hc i x j c hx hj).plus []
theorem Rel.Zv (r : Rel w0 Pr M0 M β st a w) {s z : Nat} {blk : aI} {w' : World} {p : Option (Nat × Nat)} {c : Value} {len : Nat} {d : Option Nat} (_ams : s < ah)
    (hsz:w.heap.size≤w'.heap.size) (hos:w'.os=w.os) (htp:w'.tape=w.tape) (hop:w'.output=w.output)
    (hold:∀ k,k<w.heap.size→(∀ o,β s=some (k,o)→(look st.heap s).isSome=true→False)→w'.heap[k]?=w.heap[k]?)
    (hrm:∀ b n,b<w.heap.size→Room w b n→Room w' b n)
    (hp:∀ b o,p=some (b,o)→¬ M b∧b<w'.heap.size∧((w0.heap.size≤b∨Pr b)∧(w0.n0≤b∨ah≤s))∧(∀ s' o',s'≠s→(look st.heap s').isSome=true→β s'≠some (b,o')))
    (hB:∀ (β':Nat→Option (Nat × Nat)) (h':Nat→Option aI),β' s=p→h' s=some blk→(∀ (v:PV) (c:Value),VR w M v c→VR w' M v c)→BR w' M β' h' s blk∧AR w' M β' h' (.slice s z 0 len) c) :
    Rel w0 Pr M0 M (fun x=>if x=s then p else β x) (st.apply d { val:=.slice s z 0 len,lJ:=[(s,blk)],cut:=[s] }) (a.put d c) w':=by
  have r1:=r.strike (M':=M) [s] (fun _ h=>h) (fun _ h=>.inl h)
  have hls:∀ x,(look (st.strike [s]).heap x).isSome=true→x≠s∧(look st.heap x).isSome=true:=by
   intro x hx
   rw[bQ]at hx
   by_cases h:x∈[s]
   · rw[if_pos h]at hx;cases hx
   · rw[if_neg h]at hx
     exact⟨by simpa using h,by simpa using hx⟩
  have hMk:∀ k,M k→w'.heap[k]?=w.heap[k]?:=fun k hk=>hold k (r.fJ k hk) fun o h1 h2=>(r.own s k o h2 h1).1 hk
  have r2:Rel w0 Pr M0 M β (st.strike [s]) a w':=r1.world hsz hos htp hop (fun k hk hk'=>hold k hk fun o h1 h2=>by
   rcases hk' with hk' | ⟨s',o',h3,h4⟩ | ⟨h3,h4⟩
   · exact(r.own s k o h2 h1).1 hk'
   · exact(hls s' h3).1 (r.inj s' s k o' o (hls s' h3).2 h2 h4 h1)
   · rcases(r.own s k o h2 h1).2.2.1 with h | h
     · omega
     · exact h4 h) (fun k n _ hk _ hr=>hrm k n hk hr) (fun _ h=>h) (fun _ h=>.inl h)
  have habs:look (st.strike [s]).heap s=none:=by rw[bQ,if_pos (by simp)]
  obtain⟨hB1,hB2⟩:=hB (fun x=>if x=s then p else β x) (fun x=>if x=s then some blk else look (st.strike [s]).heap x) (by simp) (by simp) (fun v c h=>h.mono fun k hk=>⟨hk,hMk k hk⟩)
  have r3:=r2.lay (s:=s) (blk:=blk) habs (p:=p) (fun b o e=>by
   obtain⟨q1,q2,q3,q4⟩:=hp b o e
   exact⟨q1,q2,q3,fun s' o' h=>q4 s' o' (hls s' h).1 (hls s' h).2⟩) hB1
  have hlk:look (put (st.strike [s]).heap s blk)=fun x=>if x=s then some blk else look (st.strike [s]).heap x:=funext fun x=>aV _ _ _ _
  have r4:=r3.setEnv d (v:=.slice s z 0 len) (c:=c) (by
   show AR w' _ _ (look (put (st.strike [s]).heap s blk)) _ c
   rw[hlk];exact hB2)
  have e1:st.apply d { val:=.slice s z 0 len,lJ:=[(s,blk)],cut:=[s] }={ env:=Skm.setEnv (st.strike [s]).env d (.slice s z 0 len),heap:=put (fD [s] st.heap) s blk }:=rfl
  rw[e1]
  refine Rel.congr r4 (hp:=put (fD [s] st.heap) s blk) fun x=>?_
  show look (put (fD [s] st.heap) s blk) x=look (put (st.strike [s]).heap s blk) x
  rw[aV,aV]
  by_cases h:x=s
  · rw[if_pos h,if_pos h]
  · rw[if_neg h,if_neg h,fA,bQ,if_neg (by simpa using h)]
theorem VQ (_ok : bP P T) (r : Rel w0 Pr M0 M β st a w) {h' : Nat → Option aI} (hsub : ∀ s b,h' s = some b → look st.heap s = some b) {ts : Array TypeId} {ty t t2 e : TypeId} {i : TypeInfo} {v : Value} {sa : Bool} {ks : List Kd} {dd : Nat} {x : AV} {c cy : Value}
    {s2:Option (Bool × List Kd)} {m:Nat} {ys:List PV}
    (h0:ts[0]?=some t) (h1:ts[1]?=some t2) (hu:P.underlying t=some (.slice e)) (hi:P.info? e=some i) (hz:i.zero=some v) (hsz:i.size=ks.length) (hby:i.bytes≤16384) (hzs:v.cells.size=ks.length)
    (hx:AR w M β (look st.heap) x c) (hB:yS s2 sa ks=true→vJ P w M t2 v sa ks m ys cy) (hB':yS s2 sa ks=true→vJ P w.drew M t2 v sa ks m ys cy) :
    aO P w0 Pr M0 β st a w (some dd) (I9 h' dd (sa,ks) x s2 m ys) (do pure (.value (← Builtin.append_ ts ty #[c,cy]))):=by
  unfold I9
  refine aO.chk fun hsame=>?_
  have hB:=hB hsame
  have hB':=hB' hsame
  have hys:ys.length=m:=hB.1
  have b2:=hB.2.1
  obtain⟨zeros,td,CB,b3,b4,b5,b6,b7,b8⟩:=hB.both hB'
  have one:∀ u∈CB.toList,u.oneCell'=true:=hB.one CB b5 b6
  have fits:∀ (base:Option Addr) (len cap:Nat) (w1:World),len+m≤2147483648→len+m≤cap→Ru P base (len*ks.length) CB w w1→(Builtin.append_ ts ty #[.slice base len cap,cy]).run P w=.ok (.slice base (len+m) cap) w1:=by
   intro base len cap w1 hm hcap hst
   exact DZ h0 h1 hu hi hz hsz hby b3 b4 hm (C:=CB) b7 b8 (fun _=>⟨rfl,hst⟩) (fun h=>by omega)
  split
  · rename_i s z off len
    split
    · rename_i a' ks' xs hl0
      have hl:=hsub _ _ hl0
      refine aO.chk fun hk=>aO.chk fun hm=>?_
      simp only[Bool.and_eq_true,beq_iff_eq,decide_eq_true_eq]at hk hm
      obtain⟨rfl,hk2,hk3⟩:=hk
      have:=Kd.jY _ _ hk2
      subst this
      have hk3:s<100000:=(Nat.blt_eq▸hk3:_)
      have hi0:(look st.heap s).isSome=true:=by rw[hl];rfl
      have hA:KN P w.drew M a' ks' len ((xs.drop off).take len) c :=
       yD (P:=P) r.drew hsub (y:=.slice s z off len) (c:=c) (s2:=some (a',ks')) (m:=len) (ys:=(xs.drop off).take len) (AR.mono (w:=w) (w':=w.drew) (M':=M) (β':=β) (h':=look st.heap) (fun b hb=>⟨hb,rfl⟩) hx fun s blk _ h=>⟨blk,h,Like.refl _,rfl,fun _ _ _ _ h=>h⟩)
        (by simp only[NQ,hl0]) (by simp[yS,Kd.oN])
      have grow:∀ (base:Option Addr) (cap:Nat),c=.slice base len cap→cap<len+m→aO P w0 Pr M0 β st a w (some dd) (.ret { val:=.slice s ks'.length 0 (len+m),lJ:=[(s,.arr a' ks' ((xs.drop off).take len++ys))],cut:=[s] }) (do pure (.value (← Builtin.append_ ts ty #[c,cy]))):=by
       intro base cap hc hgr
       subst hc
       obtain⟨C,qO,g1,g2,g3,g4,g5,g6⟩:=zh (ty:=ty) h0 h1 hu hi hz hsz hby hzs hm hA hB hB' hgr
       refine aO.ret (h5:=fun _=>lM (.inl hk3)) (h4:=fun _ s' hs'=>if_neg (by simp only[ah]at hs';omega)) (M':=M) (β':=fun x=>if x=s then some (w.heap.size,0) else β x) (nv:=.value (.slice (some ⟨w.heap.size,0,none⟩) (len+m) qO)) (by simp only[Sem.run_bind,g1,Result.andThen_ok,Sem.run_pure];rfl) (.inl rfl) fun _=>?_
       refine r.Zv hk3 (p:=some (w.heap.size,0)) (w':=w.drew.alloc (.cells C e)) (by simp) rfl rfl rfl (fun k hk _=>alloc_old (w:=w.drew) hk) (fun k n hk hr=>hr.of_block (alloc_old (w:=w.drew) hk)) ?_ ?_
       · intro b o hp;cases hp
         refine⟨fun hM=>by have:=r.fJ _ hM;omega,by simp,⟨.inl r.size,.inl (Nat.le_trans w0.le' r.size)⟩,fun s' o' _ h1 h2=>by have:=(r.own s' _ o' h1 h2).2.1;omega⟩
       · intro β' h'' nP hh hv
         have hdr:∀ (v:PV) (c:Value),VR w.drew M v c→VR (w.drew.alloc (.cells C e)) M v c:=fun v c h=>h.mono fun b hb=>⟨hb,alloc_old (w:=w.drew) (r.fJ b hb)⟩
         have hnew:(w.drew.alloc (.cells C e)).heap[w.heap.size]?=some (.cells C e):=lZ (w:=w.drew)
         have hX:((xs.drop off).take len++ys).length*ks'.length≤C.size:=by rw[g5,g3];exact Nat.mul_le_mul_right _ g2
         refine⟨.arr a' ks' _ w.heap.size 0 C e (0,0) nP hnew (by omega) (o7 C) g4 (fun i x j c hx hj=>by rw[Nat.zero_add];exact hdr _ _ (g6 i x j c hx hj)),?_⟩
         have:=AR.slice (w:=w.drew.alloc (.cells C e)) (M:=M) (β:=β') (h:=h'') s 0 (len+m) a' ks' _ w.heap.size 0 qO hh (by omega) nP g2 (Room.mk (fr:=(0,0)) hnew (by rw[Nat.zero_add,Nat.zero_add,g3];exact Nat.le_refl _) (o7 C))
         simpa using this
      cases hx with
      | slice _ _ _ a1 Uo xs1 b o cap p1 p2 p3 p4 p5 =>
       rw[hl]at p1;cases p1
       by_cases hfit:len+m≤cap
       · obtain⟨C,ce,fr,k1,k2,k3⟩:=p5.get
         have hroom:o+off*ks'.length+len*ks'.length+CB.toList.length≤C.size:=by
          have:(off+(len+m))*ks'.length≤(off+cap)*ks'.length:=Nat.mul_le_mul_right _ (by omega)
          rw[Nat.add_mul,Nat.add_mul]at this
          simp only[Array.length_toList,b5];omega
         have hst:=mV (P:=P) (b:=b) (o:=o+off*ks'.length+len*ks'.length) (e:=ce) (fr:=fr) CB.toList 0 w C k1 k3 (by simpa using hroom) one
         rw[Nat.add_zero]at hst
         have hrun:=fits (some ⟨b,o+off*ks'.length,none⟩) len cap _ hm hfit (by simp only[Ru,addr_add];exact hst)
         refine aO.ret (h5:=fun _=>lM (.inl hk3)) (h4:=fun _ s' hs'=>if_neg (by simp only[ah]at hs';omega)) (M':=M) (β':=fun x=>if x=s then some (b,o+off*ks'.length) else β x) (nv:=.value (.slice (some ⟨b,o+off*ks'.length,none⟩) (len+m) cap)) (by simp only[Sem.run_bind,hrun,Result.andThen_ok,Sem.run_pure];rfl) (.inl rfl) fun _=>?_
         have hbk:∀ k,k≠b→(dM w b (dS C (o+off*ks'.length+len*ks'.length) CB.toList) ce fr).heap[k]?=w.heap[k]?:=fun k hk=>by
          simp only[dM];rw[Array.getElem?_setIfInBounds_ne (fun e=>hk e.symm)]
         obtain⟨o1,o2,o3⟩:=r.own s b o hi0 p3
         refine r.Zv hk3 (p:=some (b,o+off*ks'.length)) (by simp[dM]) rfl rfl rfl (fun k hk hne=>hbk k fun e=>by subst e;exact hne o p3 hi0) (fun k n hk hr=>by
          by_cases hkb:k=b
          · subst hkb
            obtain⟨C1,e1,Rh,h1,h2,h3⟩:=hr
            rw[k1]at h1;cases h1
            have hsz':=eP (vs:=CB.toList) hroom
            exact⟨_,ce,fr,rY (C':=dS C (o+off*ks'.length+len*ks'.length) CB.toList) k1,by omega,fun h=>(h3 h).size (by omega)⟩
          · exact hr.of_block (hbk k hkb)) ?_ ?_
         · intro b' o' hp;cases hp
           exact⟨o1,by simpa [dM] using o2,o3,fun s' o' hne h1 h2=>hne (r.inj s' s b o' o h1 hi0 h2 p3)⟩
         · intro β' h'' nP hh hv
           have hnew:=rY (C':=dS C (o+off*ks'.length+len*ks'.length) CB.toList) k1
           have hsz':=eP (vs:=CB.toList) hroom
           have hopen:Open (dS C (o+off*ks'.length+len*ks'.length) CB.toList) fr:=k3.size hsz'
           have hlen:((xs.drop off).take len).length=len:=by simp;omega
           refine⟨.arr a' ks' _ b _ _ ce fr nP hnew ?_ hopen ?_ ?_,?_⟩
           · rw[hsz',List.length_append,hlen,hys,Nat.add_mul]
             simp only[Array.length_toList,b5]at hroom;omega
           · intro x hx
             rcases List.mem_append.1 hx with hx | hx
             · exact hA.2.2.1 x hx
             · exact b2 x hx
           · intro i x j cc hx hj
             rw[oK hroom]
             by_cases hi:i<len
             · rw[List.getElem?_append_left (by omega)]at hx
               have hj':j<ks'.length:=by
                have:=bY (hA.2.2.1 x (List.mem_of_getElem? hx))
                have:=(List.getElem?_eq_some_iff.1 hj).1
                omega
               have h1:(i+1)*ks'.length≤len*ks'.length:=Nat.mul_le_mul_right _ hi
               rw[Nat.add_mul]at h1
               rw[if_neg (by omega)]
               have hx':=ug hx
               cases r.heap s _ hl with
               | fM=>simp at hx'
               | arr _ _ _ b' o' C2 e2 fr2 g1 g2 g3 g4 g5 g6 =>
                rw[p3]at g1;cases g1
                rw[k1]at g2;cases g2
                have:=g6 _ x j cc hx' hj
                rw[Nat.add_mul,← Nat.add_assoc]at this
                exact hv _ _ this
             · rw[List.getElem?_append_right (by omega),hlen]at hx
               have hi':=(List.getElem?_eq_some_iff.1 hx).1
               have hj':j<ks'.length:=by
                have:=bY (b2 x (List.mem_of_getElem? hx))
                have:=(List.getElem?_eq_some_iff.1 hj).1
                omega
               have e0:i*ks'.length=len*ks'.length+(i-len)*ks'.length:=by
                rw[← Nat.add_mul];congr 1;omega
               have h1:(i-len+1)*ks'.length≤ys.length*ks'.length:=Nat.mul_le_mul_right _ hi'
               rw[Nat.add_mul]at h1
               rw[if_pos (by simp only[Array.length_toList,b5];rw[hys]at h1;omega)]
               have e1:o+off*ks'.length+i*ks'.length+j-(o+off*ks'.length+len*ks'.length)=(i-len)*ks'.length+j:=by omega
               rw[e1]
               have:=hv _ _ (b6 _ x j cc hx hj)
               simpa using this
           · have := AR.slice (w := dM w b (dS C (o + off * ks'.length + len * ks'.length) CB.toList) ce fr) (M := M) (β := β') (h := h'') s 0 (len + m) a' ks' _ b (o + off * ks'.length) cap hh (by simp; omega) nP hfit
               (Room.mk hnew (by rw[hsz',Nat.zero_add];have:=k2;rw[Nat.add_mul]at this;omega) hopen)
             simpa using this
       · exact grow _ cap rfl (by omega)
      | sliceE _ _ a1 Uo xs1 base p1 p2 =>
       by_cases hm0:m=0
       · subst hm0
         have hCB:CB.toList=[]:=by
          have:CB.size=0:=by simpa using b5
          simpa using this
         have hrun:=fits base 0 0 w hm (Nat.le_refl _) (by
          cases base with
          | none=>rfl
          | some ad=>simp only[Ru,hCB];rfl)
         refine aO.ret (h5:=fun _=>lM (.inl hk3)) (h4:=fun _ s' hs'=>if_neg (by simp only[ah]at hs';omega)) (M':=M) (β':=fun x=>if x=s then none else β x) (nv:=.value (.slice base 0 0)) (by simp only[Sem.run_bind,hrun,Result.andThen_ok,Sem.run_pure,Nat.add_zero];rfl) (.inl rfl) fun _=>?_
         have hy0:ys=[]:=by simpa using hys
         refine r.Zv hk3 (p:=none) (Nat.le_refl _) rfl rfl rfl (fun _ _ _=>rfl) (fun _ _ _ h=>h) (fun _ _ h=>by cases h) ?_
         intro β' h'' nP hh hv
         simp only[hy0,List.take_zero,List.append_nil]at hh ⊢
         exact⟨.fM _ _,.sliceE s 0 _ _ [] base hh (by simp)⟩
       · exact grow base 0 rfl (by omega)
    · exact aO.fail
  · refine aO.chk fun hm=>?_
    simp only[decide_eq_true_eq]at hm
    cases hx with
    | p _ _ hx=>cases hx with
    | nil =>
     by_cases hm0:m=0
     · subst hm0
       have hrun:=fits none 0 0 w (by omega) (Nat.le_refl _) rfl
       have hy0:ys=[]:=by simpa using hys
       subst hy0
       have hr:=r.Zt (d:=dd) (sa:=sa) (ks:=ks)
       exact aO.ret (nv:=.value (.slice none 0 0)) (by simp only[Sem.run_bind,hrun,Result.andThen_ok,Sem.run_pure,Nat.add_zero]) (.inl rfl) (fun _=>hr) (fun hf=>oG hf)
     · obtain⟨C,qO,g1,g2,g3,g4,g5,g6⟩:=zh (ty:=ty) (len:=0) (A:=[]) h0 h1 hu hi hz hsz hby hzs (by omega) (mW none 0) hB hB' (by omega)
       simp only[List.nil_append,Nat.zero_add]at g1 g2 g3 g4 g5 g6
       have hr:=r.VP (d:=dd) (sa:=sa) (ks:=ks) (xs:=ys) (C:=C) (e:=e) (len:=m) (cap:=qO) g4 (by omega) g2 (by rw[g3];exact Nat.le_refl _) (by rw[g5,g3];exact Nat.mul_le_mul_right _ g2) g6
       exact aO.ret (nv:=.value (.slice (some ⟨w.heap.size,0,none⟩) m qO)) (by simp only[Sem.run_bind,g1,Result.andThen_ok,Sem.run_pure]) (.inl rfl) (fun _=>hr) (fun hf=>oG hf)
  · rename_i a' ks' xs
    refine aO.chk fun hk=>aO.chk fun hm=>?_
    simp only[Bool.and_eq_true,beq_iff_eq,decide_eq_true_eq]at hk hm
    obtain⟨rfl,hk2⟩:=hk
    have:=Kd.jY _ _ hk2
    subst this
    have hA:KN P w.drew M a' ks' xs.length xs c:=by
     cases hx with
     | p _ _ hx=>exact GH (.inr rfl) (VR.mono (w:=w) (w':=w.drew) (M':=M) (fun b hb=>⟨hb,rfl⟩) hx)
    have hform:∃ base,c=.slice base xs.length xs.length:=by
     cases hx with
     | p _ _ hx=>cases hx with
      | full _ _ _ b o f=>exact⟨_,rfl⟩
      | H9 _ _ base=>exact⟨base,rfl⟩
    obtain⟨base,rfl⟩:=hform
    by_cases hm0:m=0
    · subst hm0
      have hx0:xs=[]:=List.length_eq_zero_iff.1 (by omega)
      subst hx0
      have hCB:CB.toList=[]:=by
       have:CB.size=0:=by simpa using b5
       simpa using this
      have hrun:=fits base 0 0 w (by omega) (Nat.le_refl _) (by
       cases base with
       | none=>rfl
       | some ad=>simp only[Ru,hCB];rfl)
      have hy0:ys=[]:=by simpa using hys
      subst hy0
      have hr:=r.Zt (d:=dd) (sa:=a') (ks:=ks') base
      exact aO.ret (nv:=.value (.slice base 0 0)) (by simp only[List.length_nil,Sem.run_bind,hrun,Result.andThen_ok,Sem.run_pure,Nat.add_zero]) (.inl rfl) (fun _=>hr) (fun hf=>oG hf)
    obtain⟨C,qO,g1,g2,g3,g4,g5,g6⟩:=zh (ty:=ty) h0 h1 hu hi hz hsz hby hzs hm.2 hA hB hB' (by omega)
    have hr:=r.VP (d:=dd) (sa:=a') (ks:=ks') (xs:=xs++ys) (C:=C) (e:=e) (len:=xs.length+m) (cap:=qO) g4 (by omega) g2 (by rw[g3];exact Nat.le_refl _) (by rw[g5,g3];exact Nat.mul_le_mul_right _ g2) g6
    exact aO.ret (nv:=.value (.slice (some ⟨w.heap.size,0,none⟩) (xs.length+m) qO)) (by simp only[Sem.run_bind,g1,Result.andThen_ok,Sem.run_pure]) (.inl rfl) (fun _=>hr) (fun hf=>oG hf)
  · exact aO.fail
end
end Go.Skm
namespace Go.Skm
section
variable {P:Program} {T:Tab} {w0:Base} {Pr M0 M:Nat→Prop} {β:Nat→Option (Nat × Nat)} {st:St} {a:Act} {w:World} {d:Option Nat}
theorem AR.drew {h:Nat→Option aI} {x:AV} {c:Value} (hx:AR w M β h x c):AR w.drew M β h x c :=
 AR.mono (w:=w) (w':=w.drew) (M':=M) (β':=β) (h':=h) (fun _ hb=>⟨hb,rfl⟩) hx fun _ blk _ h=>⟨blk,h,Like.refl _,rfl,fun _ _ _ _ h=>h⟩
theorem vJ.Us {t2:TypeId} {v:Value} {sa:Bool} {ks:List Kd} {m:Nat} {ys:List PV} {c:Value} {dd:TypeDesc} (h1:P.underlying t2=some dd) (h2:AY dd=false) (h:KN P w M sa ks m ys c):vJ P w M t2 v sa ks m ys c:=by
 obtain⟨q1,q2,q3,q4⟩:=h
 obtain⟨C,p1,p2,p3⟩:=q4 m (Nat.le_refl _)
 refine⟨q2,q3,false,dd,C,h1,h2,p2,fun i x j cc hx hj=>p3 i x j cc ?_ hx hj,q1,p1⟩
 have:=(List.getElem?_eq_some_iff.1 hx).1
 omega
theorem vJ.VT {t2 : TypeId} {v : Value} {z : PV} {sa : Bool} {ks : List Kd} {m : Nat} {k : IntKind} {dd : TypeDesc} (h1 : P.underlying t2 = some dd) (h2 : AY dd = true) (hm : (m : Int) ≤ 2147483648) (hv : ofValue v = some z) (hs : aA sa ks z = true) :
    vJ P w M t2 v sa ks m (List.replicate m z) (.int k (m:Int)):=by
  have hzc:=vI hv hs
  obtain⟨zc,z1,z2,z3,z4⟩:=uG hv
  refine⟨by simp,fun y hy=>by simp at hy;rw[hy.2];exact hs,true,dd,if m*ks.length=0 then #[] else Builtin.zeroCells v.cells m,h1,h2,?_,?_,k,rfl,hm,fun h=>if_pos h,fun h=>if_neg h⟩
  · split
    · rename_i h;simp[h]
    · rw[vK,hzc]
  · intro i x j cc hx hj
    have hi:i<m:=by simpa using (List.getElem?_eq_some_iff.1 hx).1
    rw[List.getElem?_replicate,if_pos hi]at hx
    cases hx
    have hj':=(List.getElem?_eq_some_iff.1 hj).1
    rw[bY hs]at hj'
    have hne:m*ks.length≠0:=by
     have h1:0<m:=by omega
     have h2:0<ks.length:=by omega
     exact Nat.ne_of_gt (Nat.mul_pos h1 h2)
    rw[if_neg hne]
    have:=BZ (n:=m) hzc hi hj'
    have e:Builtin.zeroCells v.cells m=(Array.range (m*ks.length)).map (v.cells[·%v.cells.size]!):=by
     simp[Builtin.zeroCells,hzc]
    rw[e,this]
    exact z4 _ _ j cc (by rw[← z1];exact hj)
theorem Ut (ok : bP P T) (r : Rel w0 Pr M0 M β st a w) {h' : Nat → Option aI} (hsub : ∀ s b,h' s = some b → look st.heap s = some b) {ts : Array TypeId} {ty t t2 : TypeId} {x y : AV} {c cy : Value}
    (h0:ts[0]?=some t) (h1:ts[1]?=some t2) (hx:AR w M β (look st.heap) x c) (hy:AR w M β (look st.heap) y cy) :
    aO P w0 Pr M0 β st a w d (DJ T h' d t t2 x y) (do pure (.value (← Builtin.append_ ts ty #[c,cy]))):=by
  unfold DJ
  split
  · rename_i dd e hu
    have hu:=ok.und hu
    split
    · rename_i z n tK hz hn hby
      obtain⟨i,v,g1,g2,g3⟩:=ok.zero hz
      obtain⟨i',q1,q2⟩:=ok.size hn
      rw[g1]at q1;cases q1
      obtain⟨i',q1,q3⟩:=ok.bytes hby
      rw[g1]at q1;cases q1
      refine aO.chk fun hb=>?_
      simp only[Bool.and_eq_true,beq_iff_eq]at hb
      obtain⟨b1,b2,b3⟩:=hb
      have b3:=Nat.le_of_ble_eq_true b3
      subst b1
      have hzc:=vI g3 b2
      split
      · rename_i k0 hu2
        have hu2:=ok.und hu2
        split
        · rename_i k m
          rw[hy.zK]
          refine aO.chk fun hm=>?_
          simp only[Bool.and_eq_true,decide_eq_true_eq]at hm
          have e1:(m.toNat:Int)=m:=by omega
          rw[show Value.int k m=Value.int k (m.toNat:Int) from by rw[e1]]
          exact VQ (sa:=(aB T e).1) (ks:=(aB T e).2) ok r hsub h0 h1 hu g1 g2 q2 (by omega) hzc hx (fun _=>vJ.VT hu2 rfl (by omega) g3 b2) (fun _=>vJ.VT hu2 rfl (by omega) g3 b2)
        · exact aO.fail
      · rename_i d2 hne hu2
        have hu2:=ok.und hu2
        have hni:AY d2=false:=by
         cases d2<;>first | rfl | (exact absurd rfl (hne _))
        split
        · rename_i s2 m ys hsrc
          exact VQ (sa:=(aB T e).1) (ks:=(aB T e).2) ok r hsub h0 h1 hu g1 g2 q2 (by omega) hzc hx (fun hs=>vJ.Us hu2 hni (yD r hsub hy hsrc hs)) (fun hs=>vJ.Us hu2 hni (yD r.drew hsub hy.drew hsrc hs))
        · exact aO.fail
      · exact aO.fail
    · exact aO.fail
  · exact aO.fail
theorem GK (st:St) (d:Option Nat) (v:AV) (s:Nat) (b:aI):st.apply d { val:=v,lJ:=[(s,b)] }={ env:=Skm.setEnv st.env d v,heap:=put st.heap s b }:=rfl
theorem E8 {t : TypeId} {i : TypeInfo} {b o : Nat} {c : Value} {C : Array Value} {e : TypeId} {fr : Nat × Nat} (hi : P.info? t = some i) (hsz : c.cells.size = i.size) (hw : w.heap[b]? = some (.cells C e fr)) (ho : Open C fr)
    (hl:o+c.cells.size≤C.size) (h1:∀ u∈c.cells.toList,u.oneCell'=true):(Instr.storeAt t (.pointer (some ⟨b,o,none⟩)) c).run P w=.ok () (dM w b (dS C o c.cells.toList) e fr):=by
  have:=mV (P:=P) (b:=b) (o:=o) c.cells.toList 0 w C hw ho (by simpa using hl) h1
  simp only[Instr.storeAt,Instr.sureAddr,Sem.run_bind,Sem.run_pure,Result.andThen_ok,storeVar,fE hi]
  rw[if_neg (by simpa using hsz)]
  simpa using this
theorem cells_one {cs:Array Value} (h:∀ (j:Nat),j<cs.size→(cs.getD j undef).oneCell'=true):∀ u∈cs.toList,u.oneCell'=true:=by
 intro u hu
 obtain⟨j,hj⟩:=List.mem_iff_getElem?.1 hu
 have hlt:=(List.getElem?_eq_some_iff.1 hj).1
 have h1:=h j (by simpa using hlt)
 have e:cs.getD j undef=u:=by
  have:cs[j]?=some u:=by simpa using hj
  simp[this]
 rwa[e]at h1
theorem Rel.aa1 (r : Rel w0 Pr M0 M β st a w) {ss : List Nat} (hf : fU ss = true) (hlive : ∀ s ∈ ss,(look st.heap s).isSome = true) {s b o idx off n : Nat} {sa : Bool} {ks : List Kd} {xs : List PV} {C : Array Value} {e : TypeId} {fr : Nat × Nat} {x x' : PV} {cs : List Value} {d : Option Nat}
    (hs:s ∉ ss) (hl:look st.heap s=some (.arr sa ks xs)) (nP:β s=some (b,o)) (hw:w.heap[b]?=some (.cells C e fr)) (hn:o+xs.length*ks.length≤C.size) (ho:Open C fr) (hsh:∀ x∈xs,aA sa ks x=true)
    (hc:∀ (i:Nat) (x:PV) (j:Nat) (c:PV),xs[i]?=some x→x.cells[j]?=some c→VR w M c (C.getD (o+i*ks.length+j) undef)) (hi:idx<xs.length) (hcl:cs.length=n) (hoff:off+n≤ks.length)
    (hx':aA sa ks x'=true) (hcv:∀ (j:Nat) (y:PV),x.cells[j]?=some y→VR w (aY M β ss) y (cs.getD j undef)) (hxl:x.cells.length=n)
    (hcell:∀ (j:Nat) (c:PV),x'.cells[j]?=some c→(off≤j∧j<off+n∧x.cells[j-off]?=some c)∨((j<off∨off+n≤j)∧∃ c0,(xs.getD idx .nil).cells[j]?=some c0∧∀ v,VR w M c0 v→VR w M c v)) :
    Rel w0 Pr M0 (aY M β ss) β (st.apply d { val:=.undef,lJ:=[(s,.arr sa ks (xs.set idx x'))],wP:=ss }) (a.put d undef) (dM w b (dS C (o+idx*ks.length+off) cs) e fr):=by
  have r1:=r.freeze [] ss hf hlive
  have hl1:look (st.strike ([]++ss)).heap s=some (.arr sa ks xs):=by
   rw[bQ,if_neg (by simpa using hs),hl];rfl
  have hrow:(idx+1)*ks.length≤xs.length*ks.length:=Nat.mul_le_mul_right _ hi
  rw[Nat.add_mul]at hrow
  have hroom:o+idx*ks.length+off+cs.length≤C.size:=by omega
  have rw1:=r1.write (s:=s) (b:=b) (o:=o) (blk:=.arr sa ks xs) (blk':=.arr sa ks (xs.set idx x')) (C:=C) (C':=dS C (o+idx*ks.length+off) cs) (e:=e) (fr:=fr) (w':=dM w b (dS C (o+idx*ks.length+off) cs) e fr) hl1
   (by simp[Like]) nP hw rfl (eP hroom) rfl rfl rfl (fun _ hk2 hself=>by
     refine .arr sa ks _ b o _ e fr nP hself (by rw[eP hroom,List.length_set];exact hn) (ho.size (eP hroom)) ?_ ?_
     · intro y hy
       rcases List.mem_or_eq_of_mem_set hy with hy | rfl
       · exact hsh y hy
       · exact hx'
     · intro i y j c hy hj
       rw[oK hroom]
       by_cases hin:i=idx
       · subst hin
         rw[List.getElem?_set_self hi]at hy
         cases hy
         rcases hcell j c hj with ⟨q1,q2,q3⟩ | ⟨q1,c0,q2,q3⟩
         · rw[if_pos (by omega)]
           have e1:o+i*ks.length+j-(o+i*ks.length+off)=j-off:=by omega
           rw[e1]
           exact hk2 _ _ (hcv _ _ q3)
         · rw[if_neg (by omega)]
           have hget:xs[i]?=some (xs.getD i .nil):=by simp[hi]
           exact hk2 _ _ ((q3 _ (hc i _ j c0 hget q2)).plus ss)
       · rw[List.getElem?_set_ne (fun e=>hin e.symm)]at hy
         have hj':j<ks.length:=by
          have:=bY (hsh y (List.mem_of_getElem? hy))
          have:=(List.getElem?_eq_some_iff.1 hj).1
          omega
         rw[if_neg ?_]
         · exact hk2 _ _ ((hc i y j c hy hj).plus ss)
         · rcases Nat.lt_or_gt_of_ne hin with hlt | hgt
           · have:(i+1)*ks.length≤idx*ks.length:=Nat.mul_le_mul_right _ hlt
             rw[Nat.add_mul]at this;omega
           · have:(idx+1)*ks.length≤i*ks.length:=Nat.mul_le_mul_right _ hgt
             rw[Nat.add_mul]at this;omega)
  exact rw1.setEnv d (v:=.undef) (c:=undef) (.undef _)
theorem Xr (ok : bP P T) (r : Rel w0 Pr M0 M β st a w) {h' : Nat → Option aI} (hsub : ∀ s b,h' s = some b → look st.heap s = some b) {t : TypeId} {p v : AV} {cp cv : Value}
    (hp:AR w M β (look st.heap) p cp) (hv:AR w M β (look st.heap) v cv):aO P w0 Pr M0 β st a w d (Gn T h' t p v) (do Instr.storeAt t cp cv;pure .skip):=by
  unfold Gn
  split
  · exact aO.fail
  · rename_i n hn
    obtain⟨i,hi,hsz⟩:=ok.size hn
    refine aO.chk fun hlen=>?_
    simp only[beq_iff_eq]at hlen
    split
    · rename_i s idx off
      split
      · rename_i cs hl0
        have hl:=hsub _ _ hl0
        refine aO.chk fun hb=>?_
        simp only[Bool.and_eq_true]at hb
        obtain⟨hb1,hb2,hb3⟩:=hb
        have hb3:=Nat.le_of_ble_eq_true hb3
        obtain⟨g1,g2⟩:=hv.cells hb1
        cases hp with
        | ptrA _ _ _ a' ks xs b o p1 p2 p3=>rw[hl]at p1;cases p1
        | ptrT _ _ _ _ _ b p1 p2=>rw[hl]at p1;cases p1
        | ptrB _ _ cs' b o p1 p2 =>
         cases r.heap s _ hl with
         | box _ b' o' C e fr k1 k2 k3 k4 k5 k6 =>
          rw[p2]at k1;cases k1
          have hone:=cells_one (cs:=cv.cells) fun j hj=>(g2 j _ (List.getElem?_eq_getElem (by omega))).2.2
          have hrun:=E8 (P:=P) (o:=o+off) hi (by omega) k2 k4 (by omega) hone
          refine aO.ret (h5:=fun _=>lM (.inr ⟨_,hl,by simp only[Like];rw[iG _ _ _ (by omega)]⟩)) (nv:=.skip) (c:=undef) (M':=M) (β':=β) (by simp only[Sem.run_bind,hrun,Result.andThen_ok,Sem.run_pure];rfl) (.inr ⟨rfl,rfl⟩) fun _=>?_
          rw[GK]
          have hroom:o+off+cv.cells.toList.length≤C.size:=by simp;omega
          have hpl:off+v.cells.length≤cs.length:=by omega
          have rw1:=r.write (s:=s) (b:=b) (o:=o) (blk:=.box cs) (blk':=.box (patch cs off v.cells)) (C:=C) (C':=dS C (o+off) cv.cells.toList) (e:=e) (fr:=fr) (w':=dM w b (dS C (o+off) cv.cells.toList) e fr) hl
           (by simp[Like,iG _ _ _ hpl]) p2 k2 rfl (eP hroom) rfl rfl rfl (fun hk hk2 hself=>by
             refine .box _ b o _ e fr p2 hself (by rw[eP hroom,iG _ _ _ hpl];exact k3) (k4.size (eP hroom)) ?_ ?_
             · intro c hc
               obtain⟨j,hj⟩:=List.mem_iff_getElem?.1 hc
               rw[oV _ _ _ hpl]at hj
               split at hj
               · exact(g2 _ c hj).2.1
               · exact k5 c (List.mem_of_getElem? hj)
             · intro j c hj
               rw[oV _ _ _ hpl]at hj
               rw[oK hroom]
               simp only[Array.length_toList,g1]
               by_cases hin:off≤j∧j<off+v.cells.length
               · rw[if_pos hin]at hj
                 rw[if_pos (by omega)]
                 have e1:o+j-(o+off)=j-off:=by omega
                 rw[e1]
                 have:=hk _ _ (g2 _ c hj).1
                 simpa using this
               · rw[if_neg hin]at hj
                 rw[if_neg (by omega)]
                 exact hk _ _ (k6 j c hj))
          have:=rw1.setEnv d (v:=.undef) (c:=undef) (.undef _)
          exact this
      · rename_i a' ks xs hl0
        have hl:=hsub _ _ hl0
        split
        · rename_i x ss hd
          obtain⟨d1,d2⟩:=wz (fun s b h=>r.heap s b (hsub s b h)) hsub hd hv
          cases hp with
          | ptrB _ _ cs' b o p1 p2=>rw[hl]at p1;cases p1
          | ptrT _ _ _ _ _ b p1 p2=>rw[hl]at p1;cases p1
          | ptrA _ _ _ a1 Uo xs1 b o p1 p2 p3 =>
           rw[hl]at p1;cases p1
           cases r.heap s _ hl with
           | fM=>simp at p2
           | arr _ _ _ b' o' C e fr k1 k2 k3 k4 k5 k6 =>
            rw[p3]at k1;cases k1
            have hget:xs[idx]?=some (xs.getD idx .nil):=by simp[p2]
            have hshape:=k5 _ (List.mem_of_getElem? hget)
            have hrow:(idx+1)*ks.length≤xs.length*ks.length:=Nat.mul_le_mul_right _ p2
            rw[Nat.add_mul]at hrow
            have hcs:∀ (hx:∀ c∈x.cells,c.leaf=true),cv.cells.size=x.cells.length∧∀ (j:Nat) (y:PV),x.cells[j]?=some y→VR w (aY M β ss) y (cv.cells.getD j undef):=by
             intro hx
             cases x with
             | agg cs =>
              cases d1 with
              | agg _ vs hn hl2 hc2=>exact⟨by simpa [Value.cells,PV.cells] using hn,fun j y hj=>hc2 j y hj⟩
             | _ =>
              have e:=d1.DN rfl
              refine⟨by rw[e];rfl,fun j y hj=>?_⟩
              rw[e]
              cases j with
              | zero=>simp[PV.cells]at hj;subst hj;simpa using d1
              | succ j=>simp[PV.cells]at hj
            have fin : ∀ (x' : PV),(∀ c ∈ x.cells,c.leaf = true) → x.cells.length = n → off + n ≤ ks.length → s ∉ ss → aA a' ks x' = true →
                (∀ (j:Nat) (c:PV),x'.cells[j]?=some c→(off≤j∧j<off+n∧x.cells[j-off]?=some c)∨((j<off∨off+n≤j)∧∃ c0,(xs.getD idx .nil).cells[j]?=some c0∧∀ v,VR w M c0 v→VR w M c v)) →
                aO P w0 Pr M0 β st a w d (.ret { val:=.undef,lJ:=[(s,.arr a' ks (xs.set idx x'))],wP:=ss }) (do Instr.storeAt t (.pointer (some ⟨b,o+idx*ks.length+off,none⟩)) cv;pure .skip):=by
              intro x' hlf hxl hoff hns hx' hcell
              obtain⟨c1,c2⟩:=hcs hlf
              have hone:=cells_one (cs:=cv.cells) fun j hj=>by
               have hj':x.cells[j]?=some (x.cells[j]'(by omega)):=List.getElem?_eq_getElem _
               exact(c2 j _ hj').one (hlf _ (List.mem_of_getElem? hj'))
              have hrun:=E8 (P:=P) (o:=o+idx*ks.length+off) hi (by omega) k2 k4 (by omega) hone
              exact aO.ret (h5:=fun _=>lM (.inr ⟨_,hl,by simp[Like]⟩)) (nv:=.skip) (c:=undef) (w':=dM w b (dS C (o+idx*ks.length+off) cv.cells.toList) e fr) (by simp only[Sem.run_bind,hrun,Result.andThen_ok,Sem.run_pure]) (.inr ⟨rfl,rfl⟩) fun hf =>
               r.aa1 hf d2 hns hl p3 k2 k3 k4 k5 k6 p2 (cs:=cv.cells.toList) (by simp;omega) hoff hx' (fun j y hj=>by simpa using c2 j y hj) hxl hcell
            cases a' with
            | true =>
             refine aO.chk fun hb=>?_
             simp only[Bool.and_eq_true,Bool.not_eq_true']at hb
             obtain⟨hb1,hb2,hb3⟩:=hb
             have hb2:=Nat.le_of_ble_eq_true hb2
             rw[dK]at hb3
             obtain⟨m1,m2⟩:=eH hb1
             have hxl:x.cells.length=n:=by rw[← m1];simp;omega
             have hlf:∀ c∈x.cells,c.leaf=true:=by
              intro c hc
              obtain⟨j,hj⟩:=List.mem_iff_getElem?.1 hc
              have hjn:=(List.getElem?_eq_some_iff.1 hj).1
              have hk:((ks.drop off).take n)[j]?=some (((ks.drop off).take n)[j]'(by omega)):=List.getElem?_eq_getElem _
              exact iL (m2 j _ c hk hj)
             have hel:(eF ks (xs.getD idx .nil) 0).length=ks.length:=by
              have:∀ (l:List Kd) (y:PV) (o:Nat),(eF l y o).length=l.length:=by
               intro l;induction l with
               | nil=>intros;rfl
               | cons k r ih=>intro y o;simp[eF,ih]
              exact this _ _ _
             have hpl:off+x.cells.length≤(eF ks (xs.getD idx .nil) 0).length:=by omega
             have cell : ∀ (j : Nat) (c : PV),(patch (eF ks (xs.getD idx .nil) 0) off x.cells)[j]? = some c → (off ≤ j ∧ j < off + n ∧ x.cells[j - off]? = some c) ∨
                 ((j<off∨off+n≤j)∧∃ k c0,ks[j]?=some k∧(xs.getD idx .nil).cells[j]?=some c0∧kindOk k c0=true∧c=eta k c0):=by
               intro j c hj
               rw[oV _ _ _ hpl]at hj
               by_cases hin:off≤j∧j<off+x.cells.length
               · rw[if_pos hin]at hj;exact .inl ⟨hin.1,by omega,hj⟩
               · rw[if_neg hin,oW]at hj
                 cases hk:ks[j]? with
                 | none=>rw[hk]at hj;simp at hj
                 | some k =>
                  rw[hk]at hj
                  simp only[Option.map_some,Nat.zero_add,Option.some.injEq]at hj
                  obtain⟨c0,q1,q2,q3⟩:=ql hshape hk
                  exact .inr ⟨by omega,k,c0,rfl,q1,q2,by rw[← hj,q3]⟩
             refine fin _ hlf hxl hb2 hb3 ?_ ?_
             · -- the shape of the new element
               have akx:=iG _ _ _ hpl
               have key:∀ (l:List Kd) (vs:List PV),l.length=vs.length→(∀ (j:Nat) (k:Kd) (v:PV),l[j]?=some k→vs[j]?=some v→kindOk k v=true)→bH l vs=true:=by
                intro l
                induction l with
                | nil => intro vs h _; have : vs = [] := by simpa using h.symm
                         subst this;rfl
                | cons k l ih =>
                 intro vs h h2
                 cases vs with
                 | nil=>simp at h
                 | cons v vs =>
                  simp only[bH,Bool.and_eq_true]
                  exact⟨h2 0 k v (by simp) (by simp),ih vs (by simpa using h) fun j k v hk hv=>h2 (j+1) k v (by simpa using hk) (by simpa using hv)⟩
               show bH ks (patch (eF ks (xs.getD idx .nil) 0) off x.cells)=true
               refine key _ _ (by omega) fun j k v hk hv=>?_
               rcases cell j v hv with ⟨q1,q2,q3⟩ | ⟨q1,k',c0,q2,q3,q4,rfl⟩
               · have : ((ks.drop off).take n)[j - off]? = some k := by
                   rw[List.getElem?_take,if_pos (by omega),List.getElem?_drop]
                   rw[show off+(j-off)=j from by omega];exact hk
                 exact m2 _ _ _ this q3
               · rw[hk]at q2;cases q2
                 exact Zj q4
             · intro j c hj
               rcases cell j c hj with h | ⟨q1,k',c0,q2,q3,q4,rfl⟩
               · exact .inl h
               · exact .inr ⟨q1,c0,q3,fun v hv=>xg q4 hv⟩
            | false =>
             refine aO.chk fun hb=>?_
             simp only[Bool.and_eq_true,Bool.not_eq_true']at hb
             obtain⟨hb1,hb2,hb3,hb4⟩:=hb
             have hb2:=Nat.eq_of_beq_eq_true hb2
             have hb3:=Nat.eq_of_beq_eq_true hb3
             rw[dK]at hb4
             have hsl:=bY hb1
             have hk1:ks.length=1∧x.leaf=true:=by
              match ks,hb1 with
              | [k],h=>exact⟨rfl,iL (by simpa [aA] using h)⟩
             have hxc:x.cells=[x]:=by
              have:=hk1.2
              cases x<;>first | rfl | simp[PV.leaf]at this
             refine fin x (by rw[hxc];simpa using hk1.2) (by rw[hxc,hb3];rfl) (by omega) hb4 hb1 ?_
             intro j c hj
             have:=(List.getElem?_eq_some_iff.1 hj).1
             have hj0:j=0:=by rw[hxc]at this;simpa using this
             subst hj0
             refine .inl ⟨by omega,by omega,?_⟩
             simpa [hb2] using hj
        · exact aO.fail
      · exact aO.fail
    · exact aO.fail
end
end Go.Skm
namespace Go.Skm
section
variable {P:Program} {T:Tab} {w0:Base} {Pr M0 M:Nat→Prop} {β:Nat→Option (Nat × Nat)} {st:St} {a:Act} {w:World} {d:Option Nat}
theorem Rel.KQ (r : Rel w0 Pr M0 M β st a w) {s b o off : Nat} {sa : Bool} {ks : List Kd} {xs ys : List PV} {C : Array Value} {e : TypeId} {fr : Nat × Nat} {cs : List Value} {v : AV} {c : Value} {d : Option Nat}
    (hl:look st.heap s=some (.arr sa ks xs)) (nP:β s=some (b,o)) (hw:w.heap[b]?=some (.cells C e fr)) (hn:o+xs.length*ks.length≤C.size) (ho:Open C fr) (hsh:∀ x∈xs,aA sa ks x=true)
    (hc:∀ (i:Nat) (x:PV) (j:Nat) (c:PV),xs[i]?=some x→x.cells[j]?=some c→VR w M c (C.getD (o+i*ks.length+j) undef)) (hoff:off+ys.length≤xs.length) (hcl:cs.length=ys.length*ks.length)
    (hy:∀ y∈ys,aA sa ks y=true) (hcv:∀ (i:Nat) (y:PV) (j:Nat) (c:PV),ys[i]?=some y→y.cells[j]?=some c→VR w M c (cs.getD (i*ks.length+j) undef)) (hv:∀ w' h',AR w' M β h' v c) :
    Rel w0 Pr M0 M β (st.apply d { val:=v,lJ:=[(s,.arr sa ks (patch xs off ys))] }) (a.put d c) (dM w b (dS C (o+off*ks.length) cs) e fr):=by
  have hrow:(off+ys.length)*ks.length≤xs.length*ks.length:=Nat.mul_le_mul_right _ hoff
  rw[Nat.add_mul]at hrow
  have hroom:o+off*ks.length+cs.length≤C.size:=by omega
  have rw1:=r.write (s:=s) (b:=b) (o:=o) (blk:=.arr sa ks xs) (blk':=.arr sa ks (patch xs off ys)) (C:=C) (C':=dS C (o+off*ks.length) cs) (e:=e) (fr:=fr) (w':=dM w b (dS C (o+off*ks.length) cs) e fr) hl
   (by simp[Like,iG _ _ _ hoff]) nP hw rfl (eP hroom) rfl rfl rfl (fun _ hk2 hself=>by
     refine .arr sa ks _ b o _ e fr nP hself (by rw[eP hroom,iG _ _ _ hoff];exact hn) (ho.size (eP hroom)) ?_ ?_
     · intro y hy'
       obtain⟨j,hj⟩:=List.mem_iff_getElem?.1 hy'
       rw[oV _ _ _ hoff]at hj
       split at hj
       · exact hy y (List.mem_of_getElem? hj)
       · exact hsh y (List.mem_of_getElem? hj)
     · intro i y j c hyi hj
       rw[oV _ _ _ hoff]at hyi
       rw[oK hroom]
       by_cases hin:off≤i∧i<off+ys.length
       · rw[if_pos hin]at hyi
         have hj':j<ks.length:=by
          have:=bY (hy y (List.mem_of_getElem? hyi))
          have:=(List.getElem?_eq_some_iff.1 hj).1
          omega
         have e0:i*ks.length=off*ks.length+(i-off)*ks.length:=by rw[← Nat.add_mul];congr 1;omega
         have h1:(i-off+1)*ks.length≤ys.length*ks.length:=Nat.mul_le_mul_right _ (by omega)
         rw[Nat.add_mul]at h1
         rw[if_pos (by omega)]
         have e1:o+i*ks.length+j-(o+off*ks.length)=(i-off)*ks.length+j:=by omega
         rw[e1]
         exact hk2 _ _ (hcv _ y j c hyi hj)
       · rw[if_neg hin]at hyi
         have hj':j<ks.length:=by
          have:=bY (hsh y (List.mem_of_getElem? hyi))
          have:=(List.getElem?_eq_some_iff.1 hj).1
          omega
         rw[if_neg ?_]
         · exact hk2 _ _ (hc i y j c hyi hj)
         · by_cases hlt:i<off
           · have:(i+1)*ks.length≤off*ks.length:=Nat.mul_le_mul_right _ hlt
             rw[Nat.add_mul]at this;omega
           · have:(off+ys.length)*ks.length≤i*ks.length:=Nat.mul_le_mul_right _ (by omega)
             rw[Nat.add_mul]at this;omega)
  exact rw1.setEnv d (v:=v) (c:=c) (hv _ _)
theorem uH {xs:List PV} {off:Nat}:patch xs off []=xs:=by simp[patch]
theorem Rel.PY (r : Rel w0 Pr M0 M β st a w) {s : Nat} {blk : aI} {v : AV} {c : Value} {d : Option Nat} (hl : look st.heap s = some blk) (hv : ∀ w' h',AR w' M β h' v c) :
    Rel w0 Pr M0 M β (st.apply d { val:=v,lJ:=[(s,blk)] }) (a.put d c) w:=by
  have:=(r.setEnv d (v:=v) (c:=c) (hv _ _)).congr (hp:=put st.heap s blk) (fun x=>by
   rw[aV]
   by_cases h:x=s
   · subst h;rw[if_pos rfl,hl]
   · rw[if_neg h])
  exact this
theorem Rw {sa : Bool} {ks : List Kd} {ys : List PV} {C : Array Value} (h0 : ∀ y ∈ ys,aA sa ks y = true) (h1 : C.size = ys.length * ks.length)
    (h2:∀ (i:Nat) (x:PV) (j:Nat) (cc:PV),ys[i]?=some x→x.cells[j]?=some cc→VR w M cc (C.getD (i*ks.length+j) undef)):∀ u∈C.toList,u.oneCell'=true:=by
  intro u hu
  obtain⟨q,hq⟩:=List.mem_iff_getElem?.1 hu
  have hlt:q<ys.length*ks.length:=by
   have:=(List.getElem?_eq_some_iff.1 hq).1
   simpa [h1] using this
  have hk:0<ks.length:=Nat.pos_of_ne_zero fun e=>by rw[e]at hlt;simp at hlt
  have g1:q / ks.length<ys.length:=(Nat.div_lt_iff_lt_mul hk).2 hlt
  have g2:q%ks.length<ks.length:=Nat.mod_lt _ hk
  have hx:ys[q / ks.length]?=some (ys[q / ks.length]'g1):=List.getElem?_eq_getElem _
  have hs:=h0 _ (List.mem_of_getElem? hx)
  have hkd:ks[q%ks.length]?=some ks[q%ks.length]:=List.getElem?_eq_getElem g2
  obtain⟨cc,p1,p2,_⟩:=ql hs hkd
  have:=h2 _ _ _ _ hx p1
  have e:q / ks.length*ks.length+q%ks.length=q:=by rw[Nat.mul_comm];exact Nat.div_add_mod q ks.length
  rw[e]at this
  have e2:C.getD q undef=u:=by
   have:C[q]?=some u:=by simpa using hq
   simp[this]
  rw[e2]at this
  exact this.one (iL p2)
theorem Zw (ok : bP P T) (r : Rel w0 Pr M0 M β st a w) {h' : Nat → Option aI} (hsub : ∀ s b,h' s = some b → look st.heap s = some b) {ts : Array TypeId} {ty t : TypeId} {x y : AV} {c cy : Value}
    (h0:ts[0]?=some t) (hx:AR w M β (look st.heap) x c) (hy:AR w M β (look st.heap) y cy) :
    aO P w0 Pr M0 β st a w d (JY T h' t x y) (do pure (.value (← Builtin.copy_ ts ty #[c,cy]))):=by
  unfold JY
  split
  · rename_i e hu
    have hu:=ok.und hu
    split
    · rename_i s z off len n hn
      obtain⟨i,hi,hsz⟩:=ok.size hn
      split
      · rename_i sa ks xs s2 m ys hl0 hsrc
        have hl:=hsub _ _ hl0
        refine aO.chk fun hb=>?_
        simp only[Bool.and_eq_true,beq_iff_eq]at hb
        obtain⟨hb1,hb2⟩:=hb
        subst hb2
        obtain⟨q1,q2,q3,q4⟩:=yD (P:=P) r hsub hy hsrc hb1
        have hmin:Nat.min m len≤m:=Nat.min_le_left _ _
        obtain⟨C0,p1,p2,p3⟩:=q4 (Nat.min m len) hmin
        have run:∀ (base:Option Addr) (cap:Nat) (w1:World),Ru P base 0 C0 w w1→(Builtin.copy_ ts ty #[.slice base len cap,cy]).run P w=.ok (goInt (Nat.min m len:Nat)) w1:=by
         intro base cap w1 hst
         unfold Builtin.copy_
         simp only[h0,show (#[Value.slice base len cap,cy]:Array Value)[0]?=some (.slice base len cap) from rfl,show (#[Value.slice base len cap,cy]:Array Value)[1]?=some cy from rfl]
         simp only[Sem.run_bind,aZ hu,Result.andThen_ok,q1,fE hi,hsz,p1]
         cases base with
         | none=>simp only[Ru]at hst;subst hst;rfl
         | some ad =>
          simp only[Ru]at hst
          have e:ad.add 0=ad:=by simp[Addr.add]
          rw[e]at hst
          simp only[Sem.run_bind,hst,Result.andThen_ok];rfl
        have hval:∀ w' h',AR w' M β h' (.p (.int .i64 (Nat.min m len:Nat))) (goInt (Nat.min m len:Nat)):=fun _ _=>.int _ _
        have hyl:(ys.take (Nat.min m len)).length=Nat.min m len:=by rw[List.length_take,q2];exact Nat.min_eq_left hmin
        cases hx with
        | sliceE _ _ a1 Uo xs1 base g1 g2 =>
         have hm0:Nat.min m 0=0:=Nat.min_zero m
         have hC0:C0.toList=[]:=by
          have:C0.size=0:=by rw[p2,hm0];simp
          simpa using this
         have hrun:=run base 0 w (by
          cases base with
          | none=>rfl
          | some ad=>simp only[Ru,hC0];rfl)
         refine aO.ret (h5:=fun _=>lM (.inr ⟨_,hl,by simp only[Like,hm0,List.take_zero,uH];exact⟨trivial,trivial,Nat.le_refl _⟩⟩)) (nv:=.value (goInt (Nat.min m 0:Nat))) (M':=M) (β':=β) (by simp only[Sem.run_bind,hrun,Result.andThen_ok,Sem.run_pure];rfl) (.inl rfl) fun _=>?_
         rw[hm0,List.take_zero,uH]
         rw[hm0]at hval
         exact r.PY hl hval
        | slice _ _ _ a1 Uo xs1 b o cap g1 g2 g3 g4 g5 =>
         rw[hl]at g1;cases g1
         have hle:Nat.min m len≤len:=Nat.min_le_right _ _
         cases r.heap s _ hl with
         | fM =>
          have hz0:len=0:=by simp at g2;omega
          subst hz0
          have hm0:Nat.min m 0=0:=Nat.min_zero m
          have hC0:C0.toList=[]:=by
           have:C0.size=0:=by rw[p2,hm0];simp
           simpa using this
          have hrun:=run (some ⟨b,o+off*ks.length,none⟩) cap w (by simp only[Ru,hC0];rfl)
          refine aO.ret (h5:=fun _=>lM (.inr ⟨_,hl,by simp only[Like,hm0,List.take_zero,uH];exact⟨trivial,trivial,Nat.le_refl _⟩⟩)) (nv:=.value (goInt (Nat.min m 0:Nat))) (M':=M) (β':=β) (by simp only[Sem.run_bind,hrun,Result.andThen_ok,Sem.run_pure];rfl) (.inl rfl) fun _=>?_
          rw[hm0,List.take_zero,uH]
          rw[hm0]at hval
          exact r.PY hl hval
         | arr _ _ _ b' o' C e' fr k1 k2 k3 k4 k5 k6 =>
          rw[g3]at k1;cases k1
          have hsh:∀ y∈ys.take (Nat.min m len),aA sa ks y=true:=fun y hy=>q3 y (List.mem_of_mem_take hy)
          have hcv:∀ (i:Nat) (y:PV) (j:Nat) (c:PV),(ys.take (Nat.min m len))[i]?=some y→y.cells[j]?=some c→VR w M c (C0.getD (i*ks.length+j) undef):=by
           intro i y j c hyi hj
           rw[List.getElem?_take]at hyi
           split at hyi
           · exact p3 i y j c (by assumption) hyi hj
           · cases hyi
          have hone:=Rw hsh (by rw[hyl];exact p2) hcv
          have hrow:(off+Nat.min m len)*ks.length≤xs.length*ks.length:=Nat.mul_le_mul_right _ (by omega)
          rw[Nat.add_mul]at hrow
          have hst:=mV (P:=P) (b:=b) (o:=o+off*ks.length) (e:=e') (fr:=fr) C0.toList 0 w C k2 k4 (by simp only[Array.length_toList,p2];omega) hone
          have hrun:=run (some ⟨b,o+off*ks.length,none⟩) cap _ (by simp only[Ru,addr_add,Nat.add_zero];exact hst)
          refine aO.ret (h5:=fun _=>lM (.inr ⟨_,hl,by simp only[Like];rw[iG _ _ _ (by rw[hyl];omega)];exact⟨trivial,trivial,Nat.le_refl _⟩⟩)) (nv:=.value (goInt (Nat.min m len:Nat))) (M':=M) (β':=β) (by simp only[Sem.run_bind,hrun,Result.andThen_ok,Sem.run_pure];rfl) (.inl rfl) fun _=>?_
          rw[Nat.add_zero]
          exact r.KQ hl g3 k2 k3 k4 k5 k6 (by rw[hyl];omega) (by rw[hyl];simpa using p2) hsh (fun i y j c h1 h2=>by simpa using hcv i y j c h1 h2) hval
      · exact aO.fail
    · exact aO.fail
  · exact aO.fail
theorem Xt (ok : bP P T) (r : Rel w0 Pr M0 M β st a w) {h' : Nat → Option aI} (hsub : ∀ s b,h' s = some b → look st.heap s = some b) {ts : Array TypeId} {ty t : TypeId} {x : AV} {c : Value}
    (h0:ts[0]?=some t) (hx:AR w M β (look st.heap) x c) :
    aO P w0 Pr M0 β st a w d (Gt T h' t x) (do pure (.value (← Builtin.clear_ ts ty #[c]))):=by
  unfold Gt
  split
  · rename_i e s z off len hu
    have hu:=ok.und hu
    split
    · rename_i sa ks xs zz hl0 hz
      have hl:=hsub _ _ hl0
      obtain⟨i,v,g1,g2,g3⟩:=ok.zero hz
      refine aO.chk fun hb=>?_
      have hzc:=vI g3 hb
      obtain⟨zc,z1,z2,z3,z4⟩:=uG g3
      have hval:∀ w' h',AR w' M β h' (.mG []) (.tuple #[]):=fun _ _=>.mG [] #[] rfl (fun i c h=>by simp at h)
      have run : ∀ (base : Option Addr) (cap : Nat) (w1 : World),(len = 0 → w1 = w) → (len ≠ 0 → ∃ ad,base = some ad ∧ (storeCells ad (Builtin.zeroCells v.cells len).toList).run P w = .ok () w1) →
          (Builtin.clear_ ts ty #[.slice base len cap]).run P w=.ok (.tuple #[]) w1:=by
        intro base cap w1 e1 e2
        unfold Builtin.clear_
        simp only[h0,show (#[Value.slice base len cap]:Array Value)[0]?=some (.slice base len cap) from rfl,Sem.run_bind,aZ hu,Result.andThen_ok]
        by_cases hlen:len=0
        · subst hlen
          rw[e1 rfl]
          cases base<;>simp
        · obtain⟨ad,rfl,hst⟩:=e2 hlen
          obtain⟨k,rfl⟩:=Nat.exists_eq_succ_of_ne_zero hlen
          simp only[Sem.run_bind,nY g1 g2,Result.andThen_ok,hst]
          rfl
      have nothing:len=0→∀ (base:Option Addr) (cap:Nat),c=.slice base len cap→aO P w0 Pr M0 β st a w d (.ret { val:=.mG [],lJ:=[(s,.arr sa ks (patch xs off (List.replicate len zz)))] }) (do pure (.value (← Builtin.clear_ ts ty #[c]))):=by
       intro hlen base cap hc
       subst hlen;subst hc
       have hrun:=run base cap w (fun _=>rfl) (fun h=>absurd rfl h)
       refine aO.ret (h5:=fun _=>lM (.inr ⟨_,hl,by simp only[Like,List.replicate_zero,uH];exact⟨trivial,trivial,Nat.le_refl _⟩⟩)) (nv:=.value (.tuple #[])) (M':=M) (β':=β) (by simp only[Sem.run_bind,hrun,Result.andThen_ok,Sem.run_pure];rfl) (.inl rfl) fun _=>?_
       rw[List.replicate_zero,uH]
       exact r.PY hl hval
      cases hx with
      | sliceE _ _ a1 Uo xs1 base p1 p2=>exact nothing rfl base 0 rfl
      | slice _ _ _ a1 Uo xs1 b o cap p1 p2 p3 p4 p5 =>
       rw[hl]at p1;cases p1
       by_cases hlen:len=0
       · exact nothing hlen _ cap rfl
       · cases r.heap s _ hl with
         | fM=>simp at p2;omega
         | arr _ _ _ b' o' C e' fr k1 k2 k3 k4 k5 k6 =>
          rw[p3]at k1;cases k1
          have hsh:∀ y∈List.replicate len zz,aA sa ks y=true:=fun y hy=>by simp at hy;rw[hy.2];exact hb
          have hcsz:(Builtin.zeroCells v.cells len).size=len*ks.length:=by rw[vK,hzc]
          have hcv:∀ (i:Nat) (y:PV) (j:Nat) (c:PV),(List.replicate len zz)[i]?=some y→y.cells[j]?=some c→VR w M c ((Builtin.zeroCells v.cells len).getD (i*ks.length+j) undef):=by
           intro i y j c hyi hj
           have hi:i<len:=by simpa using (List.getElem?_eq_some_iff.1 hyi).1
           rw[List.getElem?_replicate,if_pos hi]at hyi
           cases hyi
           have hj':=(List.getElem?_eq_some_iff.1 hj).1
           rw[bY hb]at hj'
           have:=BZ (n:=len) hzc hi hj'
           have e:Builtin.zeroCells v.cells len=(Array.range (len*ks.length)).map (v.cells[·%v.cells.size]!):=by simp[Builtin.zeroCells,hzc]
           rw[e,this]
           exact z4 _ _ j c (by rw[← z1];exact hj)
          have hone:=Rw hsh (by rw[hcsz];simp) hcv
          have hrow:(off+len)*ks.length≤xs.length*ks.length:=Nat.mul_le_mul_right _ p2
          rw[Nat.add_mul]at hrow
          have hst:=mV (P:=P) (b:=b) (o:=o+off*ks.length) (e:=e') (fr:=fr) (Builtin.zeroCells v.cells len).toList 0 w C k2 k4 (by simp only[Array.length_toList,hcsz];omega) hone
          have hrun:=run (some ⟨b,o+off*ks.length,none⟩) cap _ (fun h=>absurd h hlen) (fun _=>⟨_,rfl,hst⟩)
          refine aO.ret (h5:=fun _=>lM (.inr ⟨_,hl,by simp only[Like];rw[iG _ _ _ (by simpa using p2)];exact⟨trivial,trivial,Nat.le_refl _⟩⟩)) (nv:=.value (.tuple #[])) (M':=M) (β':=β) (by simp only[Sem.run_bind,hrun,Result.andThen_ok,Sem.run_pure];rfl) (.inl rfl) fun _=>?_
          rw[Nat.add_zero]
          exact r.KQ hl p3 k2 k3 k4 k5 k6 (by simpa using p2) (by simp only[Array.length_toList,hcsz,List.length_replicate]) hsh (fun i y j c h1 h2=>by simpa using hcv i y j c h1 h2) hval
    · exact aO.fail
  · exact aO.fail
end
end Go.Skm
