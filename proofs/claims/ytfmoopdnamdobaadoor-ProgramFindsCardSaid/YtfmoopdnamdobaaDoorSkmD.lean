/-
  A machine that runs this program's functions on pure values, and the proof that what it returns is true of the program; no condition beside the hypotheses of each.
-/
import Derived.Test.YtfmoopdnamdobaaDoorSkmC
import Derived.WideKeyRuns
namespace Go.Skm
theorem mapWf_nil:MapWf #[] 0 0:=⟨rfl,by simp,by simp,rfl,by simp⟩
theorem mapWf_push {E:Array MapEntry} {k n:Nat} (h:MapWf E k n) (key val:Value):MapWf (E.push { key,val,born:=k }) (k+1) (n+1):=by
 obtain⟨h1,h2,h3,h4,h5⟩:=h
 refine⟨by simp[h1],?_,?_,by omega,?_⟩
 · intro e he
   simp only[Array.toList_push,List.mem_append,List.mem_singleton]at he
   rcases he with he | rfl
   · have:=h2 e he;omega
   · simp
 · simp only[Array.toList_push,List.map_append,List.map_cons,List.map_nil]
   refine List.nodup_append.mpr ⟨h3,by simp,?_⟩
   intro x hx y hy
   simp only[List.mem_singleton]at hy
   subst hy
   obtain⟨e,he,rfl⟩:=List.mem_map.1 hx
   have:=h2 e he
   omega
 · intro i e he
   rw[Array.getElem?_push]at he
   split at he
   · rename_i hi
     cases he
     show k=i
     omega
   · exact h5 i e he
theorem modify_toList {E:Array MapEntry} {i:Nat} {f:MapEntry→MapEntry}:(E.modify i f).toList=E.toList.modify i f:=by simp
theorem mapWf_modify {E:Array MapEntry} {k n i:Nat} (h:MapWf E k n) {f:MapEntry→MapEntry} (hf:∀ e,(f e).born=e.born):MapWf (E.modify i f) k n:=by
 obtain⟨h1,h2,h3,h4,h5⟩:=h
 have hm:((E.modify i f).toList.map (·.born))=E.toList.map (·.born):=by
  rw[modify_toList]
  apply List.ext_getElem?
  intro j
  simp only[List.getElem?_map,List.getElem?_modify]
  cases E.toList[j]? with
  | none=>rfl
  | some e=>by_cases hj:i=j<;>simp[hj,hf]
 refine⟨by simp[h1],?_,by rw[hm];exact h3,h4,fun j e he=>?_⟩
 · intro e he
   have:e.born∈(E.modify i f).toList.map (·.born):=List.mem_map.2 ⟨e,he,rfl⟩
   rw[hm]at this
   obtain⟨e',he',e1⟩:=List.mem_map.1 this
   have:=h2 e' he'
   omega
 · rw[Array.getElem?_modify]at he
   split at he
   · rename_i hij
     obtain⟨e',he',rfl⟩:=Option.map_eq_some_iff.1 he
     rw[hf];exact h5 j e' he'
   · exact h5 j e he
section
variable {P:Program} {T:Tab} {w0:Base} {Pr M0 M:Nat→Prop} {β:Nat→Option (Nat × Nat)} {st:St} {a:Act} {w:World} {d:Option Nat}
theorem sim_makeMap (_ok : TabOk P T) (r : Rel w0 Pr M0 M β st a w) {t : TypeId} {x : Option AV} {c : Option Value} (hx : OptR w M β (look st.heap) x c) :
    StSim P w0 Pr M0 β st a w d (stepMakeMap T d t x) (do pure (.value (← Instr.makeMap t c))):=by
  unfold stepMakeMap
  split
  · rename_i d kt et hu
    have hc:c=none:=by
     cases c with
     | none=>rfl
     | some _=>exact hx.elim
    subst hc
    have run:(Instr.makeMap t none).run P w=.ok (.map (some w.heap.size)) (w.alloc (.map #[] 0)):=rfl
    have hr:=r.fresh (ss:=[]) (d:=d) (blk:=.mp t []) (v:=.mref d) (c:=.map (some w.heap.size)) (w':=w.alloc (.map #[] 0)) (b:=w.heap.size) (o:=0) rfl (by simp) (by simp) rfl rfl rfl (fun k hk=>alloc_old hk) (Nat.le_refl _) (by simp) (by
     intro β' h' hb hl hk hv
     exact⟨.mp t [] w.heap.size 0 #[] 0 hb alloc_new mapWf_nil (fun i p e hi=>by simp at hi),.ptrM d t [] w.heap.size 0 hl hb⟩)
    exact StSim.ret (nv:=.value (.map (some w.heap.size))) (by simp only[Sem.run_bind,run,Result.andThen_ok,Sem.run_pure]) (.inl rfl) (fun _=>hr) (fun hf=>new_arg hf)
  · exact StSim.fail
theorem flatFs_get : ∀ {fs : List Field} {o : Nat}, flatFs T o fs = true → ∀ i f, fs[i]? = some f → f.offset = o + i ∧ f.name ≠ "_" ∧ szOf T f.type = some 1 ∧ ∃ k, und T f.type = some (.int k)
 | [],o,_,i,f,h=>by simp at h
 | g::fs,o,hf,i,f,h=>by
  simp only[flatFs,Bool.and_eq_true,beq_iff_eq,bne_iff_ne,ne_eq]at hf
  obtain⟨⟨h1,h2,h3⟩,h4,h5⟩:=hf
  cases i with
  | zero =>
   simp at h;subst h
   have e3:szOf T g.type=some 1:=by
    have:=Nat.eq_of_beq_eq_true h3
    cases hs:szOf T g.type with
    | none=>rw[hs]at this;simp at this
    | some n=>rw[hs]at this;simpa using this
   refine⟨by omega,h2,e3,?_⟩
   split at h4
   · rename_i k hk;exact⟨k,hk⟩
   · cases h4
  | succ i =>
   simp at h
   obtain⟨g1,g2⟩:=flatFs_get h5 i f h
   exact⟨by omega,g2⟩
theorem run_checkFs (ok : TabOk P T) {em : Bool} {n : Nat} {cs : Array Value} : ∀ {fs : List Field} {o : Nat},flatFs T o fs = true → o + fs.length ≤ cs.size →
    (forIn fs PUnit.unit fun f _r=>do
      if f.name ≠ "_" then Instr.checkKey em (n + 1) f.type (← part f.type cs f.offset)
      pure (ForInStep.yield PUnit.unit):Sem PUnit).run P w=.ok PUnit.unit w:=by
  intro fs
  induction fs with
  | nil=>intro o _ _;simp
  | cons f fs ih =>
   intro o hf hl
   obtain⟨h1,h2,h3,h4⟩:=flatFs_get hf 0 f rfl
   simp only[List.length_cons]at hl
   have hf':flatFs T (o+1) fs=true:=by
    simp only[flatFs,Bool.and_eq_true]at hf
    exact hf.2.2
   have hpart:∃ v,(part f.type cs f.offset).run P w=.ok v w∧(Instr.checkKey em (n+1) f.type v).run P w=.ok () w:=by
    have hcs:cs[f.offset]?=some cs[f.offset]! := by
     rw[getElem!_pos cs f.offset (by omega),Array.getElem?_eq_getElem]
    refine⟨cs[f.offset]!,?_,?_⟩
    · obtain⟨k,hu⟩:=h4
      simp[part,isAgg,run_und (ok.und hu),hcs]
    · obtain⟨k,hu⟩:=h4
      simp[Instr.checkKey,run_und (ok.und hu)]
   obtain⟨v,p1,p2⟩:=hpart
   simp only[List.forIn_cons,Sem.run_bind,ne_eq,h2,not_false_eq_true,if_true,p1,Result.andThen_ok,p2,Sem.run_pure]
   exact ih hf' (by omega)
theorem run_checkFlat (ok : TabOk P T) {t : TypeId} (hk : flatKey T t = true) {cs : Array Value} {fs : Array Field} (hu : und T t = some (.struct fs)) (hl : fs.size ≤ cs.size) {em : Bool} {n : Nat} :
    (Instr.checkKey em (n+2) t (.agg cs)).run P w=.ok () w:=by
  unfold flatKey at hk
  rw[hu]at hk
  simp only[Bool.and_eq_true]at hk
  have:=run_checkFs (P:=P) (w:=w) ok (em:=em) (n:=n) (cs:=cs) hk.2 (by simpa using hl)
  rw[Instr.checkKey]
  simp only[Sem.run_bind,run_und (ok.und hu),Result.andThen_ok,← Array.forIn_toList,this,Sem.run_pure]
theorem Rel.writeM (r : Rel w0 Pr M0 M β st a w) {s b : Nat} {t : TypeId} {es es' : List (PV × PV)} {o : Nat} {w' : World} {E E' : Array MapEntry} {k k' : Nat}
    (hs:look st.heap s=some (.mp t es)) (hb:β s=some (b,o)) (hw:w.heap[b]?=some (.map E k)) (hw':w'.heap=w.heap.setIfInBounds b (.map E' k')) (hos:w'.os=w.os) (htp:w'.tape=w.tape) (hop:w'.output=w.output)
    (hn:MapWf E' k' es'.length) (hB:(∀ (v:PV) (c:Value),VR w M v c→VR w' M v c)→∀ (i:Nat) (p:PV × PV) (e:MapEntry),es'[i]?=some p→E'[i]?=some e→VR w' M p.1 e.key∧VR w' M p.2 e.val) :
    Rel w0 Pr M0 M β { st with heap:=put st.heap s (.mp t es') } a w':=by
  have hi:(look st.heap s).isSome=true:=by rw[hs];rfl
  obtain⟨o1,o2,o3⟩:=r.own s b o hi hb
  have hlk:look (put st.heap s (.mp t es'))=fun x=>if x=s then some (.mp t es') else look st.heap x:=funext fun x=>look_put _ _ _ _
  have hsz:w'.heap.size=w.heap.size:=by rw[hw'];simp
  have hne:∀ b',b'≠b→w'.heap[b']?=w.heap[b']?:=fun b' h=>by rw[hw',Array.getElem?_setIfInBounds_ne (fun e=>h e.symm)]
  have hself:w'.heap[b]?=some (.map E' k'):=by rw[hw'];simp[o2]
  have hM:∀ b',M b'→M b'∧w'.heap[b']?=w.heap[b']?:=fun b' h=>⟨h,hne b' fun e=>o1 (e▸h)⟩
  have hroom:∀ b' n,Room w b' n→Room w' b' n:=by
   intro b' n hr
   by_cases h:b'=b
   · subst h
     obtain⟨C1,e1,fr1,h1,h2,h3⟩:=hr
     rw[hw]at h1;cases h1
   · exact hr.of_block (hne b' h)
  have key:∀ (v:AV) (c:Value),AR w M β (look st.heap) v c→AR w' M β (fun x=>if x=s then some (.mp t es') else look st.heap x) v c:=by
   intro v c h
   refine h.mono hM fun s' b' _ h1=>?_
   by_cases h2:s'=s
   · subst h2;rw[hs]at h1;cases h1
     exact⟨.mp t es',by simp,rfl,rfl,fun b o n _ hr=>hroom b n hr⟩
   · exact⟨b',by simp only[if_neg h2];exact h1,Like.refl _,rfl,fun b o n _ hr=>hroom b n hr⟩
  refine⟨r.tsize,fun t v h=>by rw[hlk];exact key _ _ (r.env t v h),?_,?_,?_,fun b' h=>by rw[hsz];exact r.msub b' h,r.mnew,r.mold,?_,fun b' n h1 h2 h3=>hroom b' n (r.room b' n h1 h2 h3),by rw[hsz];exact r.size,hos.trans r.os,htp.trans r.tape,hop.trans r.output,fun p hp=>⟨(hM _ (r.glob p hp).1).1,(hM _ (r.glob p hp).1).2.trans (r.glob p hp).2⟩⟩
  · intro s' b' h1
    show BR w' M β (look (put st.heap s (.mp t es'))) s' b'
    by_cases h2:s'=s
    · subst h2
      simp only[hlk,if_true,Option.some.injEq]at h1;subst h1
      exact .mp t es' b o E' k' hb hself hn (hB fun v c h=>h.mono hM)
    · simp only[hlk,if_neg h2]at h1
      have hi':(look st.heap s').isSome=true:=by rw[h1];rfl
      rw[hlk]
      cases r.heap s' b' h1 with
      | box cs b1 o1 C1 e1 fr1 g1 g2 g3 g4 g5 g6 =>
       exact .box _ b1 o1 C1 e1 fr1 g1 (by rw[hne b1 fun e=>h2 (r.inj s' s b _ _ hi' hi (e▸g1) hb)];exact g2) g3 g4 g5 fun j c hc=>key _ _ (g6 j c hc)
      | arrE a ks=>exact .arrE a ks
      | log on ys=>exact .log on ys
      | arr a ks xs b1 o1 C1 e1 fr1 g1 g2 g3 g4 g5 g6 =>
       exact .arr a ks xs b1 o1 C1 e1 fr1 g1 (by rw[hne b1 fun e=>h2 (r.inj s' s b _ _ hi' hi (e▸g1) hb)];exact g2) g3 g4 g5 fun i x j c hx hc=>(g6 i x j c hx hc).mono hM
      | tb t c0 c1 b1 C1 fr1 g1 g2 g3 g4 g5 g6 g7 g8 =>
       exact .tb t c0 c1 b1 C1 fr1 g1 (by rw[hne b1 fun e=>h2 (r.inj s' s b _ _ hi' hi (e▸g1) hb)];exact g2) g3 g4 g5 g6 (key _ _ g7) (key _ _ g8)
      | mp t es b1 o1 E k g1 g2 g3 g4 =>
       exact .mp t es b1 o1 E k g1 (by rw[hne b1 fun e=>h2 (r.inj s' s b _ _ hi' hi (e▸g1) hb)];exact g2) g3 fun i p e hi he=>⟨(g4 i p e hi he).1.mono hM,(g4 i p e hi he).2.mono hM⟩
      | brE e=>exact .brE e
      | br e xs b1 C1 fr g1 g2 g3 g4 g5 g6=>exact .br e xs b1 C1 fr g1 (by rw[hne b1 fun e=>h2 (r.inj s' s b _ _ hi' hi (e▸g1) hb)];exact g2) g3 g4 g5 g6
  · intro s' b' o' h1 h2
    rw[hsz]
    by_cases h3:s'=s
    · subst h3;exact r.own s' b' o' hi h2
    · simp only[hlk,if_neg h3]at h1;exact r.own s' b' o' h1 h2
  · intro s' s'' b' o1 o2 h1 h2 h3 h4
    have hx:∀ x,(look (put st.heap s (.mp t es')) x).isSome=true→(look st.heap x).isSome=true:=by
     intro x hx
     by_cases h:x=s
     · subst h;exact hi
     · simpa only[hlk,if_neg h] using hx
    exact r.inj s' s'' b' o1 o2 (hx _ h1) (hx _ h2) h3 h4
  · intro b' h1 h2
    rw[hne b' ?_,r.keep b' h1 h2]
    rintro rfl
    rcases o3.1 with h | h
    · omega
    · exact h2 h
theorem run_findAsking (ok : TabOk P T) {kt : TypeId} {fs : Array Field} (hk : plainT T kt = true) (hu : und T kt = some (.struct fs)) {kc : List PV} {vs : Array Value} (hvk : vs.size = kc.length) (hv : ∀ (i : Nat) (c : PV),kc[i]? = some c → VR w M c (vs.getD i undef)) :
    ∀ {es:List (PV × PV)} {E:List MapEntry} {q:Option Nat} (j:Nat),es.length=E.length→(∀ (i:Nat) (p:PV × PV) (e:MapEntry),es[i]?=some p→E[i]?=some e→VR w M p.1 e.key∧VR w M p.2 e.val)→mapFind T kt kc es=some q →
     (Instr.findAsking kt (.agg vs) E j).run P w=.ok (q.bind fun i=>(E[i]?).map fun e=>(j+i,e.val)) w∧∀ i,q=some i→∃ p e c us,es[i]?=some p∧E[i]?=some e∧p.1=.agg c∧e.key=.agg us∧eqT T 4 kt kc c=some true:=by
  intro es
  induction es with
  | nil =>
   intro E q j hl hE hq
   have:E=[]:=List.length_eq_zero_iff.1 (by simpa using hl.symm)
   subst this
   simp[mapFind]at hq
   subst hq
   exact⟨by simp[Instr.findAsking],fun i h=>by cases h⟩
  | cons p es ih =>
   intro E q j hl hE hq
   match E,hl with
   | e::E,hl =>
    obtain⟨he1,he2⟩:=hE 0 p e rfl rfl
    have hrest:∀ (i:Nat) (p:PV × PV) (e:MapEntry),es[i]?=some p→E[i]?=some e→VR w M p.1 e.key∧VR w M p.2 e.val:=fun i p e h1 h2=>hE (i+1) p e (by simpa using h1) (by simpa using h2)
    unfold mapFind at hq
    cases hp:p.1 with
    | agg c =>
     rw[hp]at hq he1
     simp only[PV.aggCs]at hq
     cases he1':e.key with
     | agg us =>
      rw[he1']at he1
      cases he1 with
      | agg _ _ hn hl1 hh =>
       have hpl:=ok.plain hk
       have hu':=ok.und hu
       unfold plainP at hpl
       rw[hu']at hpl
       simp only[Bool.and_eq_true,Bool.not_eq_true']at hpl
       have hagg:aggP P kt=true:=by unfold aggP;rw[hu']
       have main:∀ b,eqT T 4 kt kc c=some b→(Op.equal kt (.agg vs) (.agg us)).run P w=.ok b w:=by
        intro b hb
        exact eqT_ok ok 4 9996 kt kc c b (.agg vs) (.agg us) hpl.1 hb (by unfold Rep;rw[if_pos hagg];exact⟨vs,rfl,hvk,hv⟩) (by unfold Rep;rw[if_pos hagg];exact⟨us,rfl,hn,hh⟩)
       cases hq1:eqT T 4 kt kc c with
       | none=>rw[hq1]at hq;cases hq
       | some b =>
        rw[hq1]at hq
        have hm:=main b hq1
        cases b with
        | true =>
         simp only[Option.some.injEq]at hq
         subst hq
         refine⟨by simp[Instr.findAsking,he1',hm],fun i hi=>?_⟩
         cases hi
         exact⟨p,e,c,us,rfl,rfl,hp,he1',hq1⟩
        | false =>
         simp only[Option.map_eq_some_iff]at hq
         obtain⟨q',hq',rfl⟩:=hq
         obtain⟨g1,g2⟩:=ih (j+1) (by simpa using hl) hrest hq'
         refine⟨?_,fun i hi=>?_⟩
         · simp only[Instr.findAsking,he1',Sem.run_bind,hm,Result.andThen_ok,Bool.false_eq_true,if_false,g1]
           cases q' with
           | none=>rfl
           | some i =>
            simp only[Option.bind_some,Option.map_some,List.getElem?_cons_succ,show j+1+i=j+(i+1) by omega]
         · cases q' with
           | none=>cases hi
           | some i' =>
            simp only[Option.map_some,Option.some.injEq]at hi
            subst hi
            obtain⟨p2,e2,c2,us2,k1,k2,k3⟩:=g2 i' rfl
            exact⟨p2,e2,c2,us2,by simpa using k1,by simpa using k2,k3⟩
     | _=>rw[he1']at he1;cases he1
    | _=>rw[hp]at hq;simp[PV.aggCs]at hq
   | [],hl=>simp at hl
def PV.plainLeaf:PV→Bool
 | .int _ _=>true
 | _=>false
theorem eqFs_flat:∀ {fs:List Field} {o:Nat} {xs ys:List PV},flatFs T o fs=true→eqFs (szOf T) (eqT T 3) fs xs ys=some true→xs=ys∧xs.length=fs.length∧∀ x∈xs,x.plainLeaf=true
 | [],o,xs,ys,_,h=>by
  cases xs<;>cases ys<;>simp[eqFs]at h
  simp
 | f::fs,o,xs,ys,hf,h=>by
  obtain⟨h1,h2,h3,h4⟩:=flatFs_get hf 0 f rfl
  have hf':flatFs T (o+1) fs=true:=by
   simp only[flatFs,Bool.and_eq_true]at hf
   exact hf.2.2
  unfold eqFs at h
  rw[h3]at h
  simp only at h
  cases hc:(Nat.ble 1 xs.length&&Nat.ble 1 ys.length) with
  | false=>rw[hc]at h;cases h
  | true =>
   rw[hc]at h
   simp only[cond_true,Bool.and_eq_true,Nat.ble_eq]at h hc
   match xs,ys,hc with
   | x::xs,y::ys,_ =>
    simp only[List.take_succ_cons,List.take_zero,List.drop_succ_cons,List.drop_zero]at h
    cases e1:eqT T 3 f.type [x] [y] with
    | none=>rw[e1]at h;simp at h
    | some b1 =>
     cases e2:eqFs (szOf T) (eqT T 3) fs xs ys with
     | none=>rw[e1,e2]at h;simp at h
     | some b2 =>
      rw[e1,e2]at h
      simp only[Option.some.injEq,Bool.and_eq_true]at h
      obtain⟨rfl,rfl⟩:=h
      obtain⟨g1,g2,g3⟩:=eqFs_flat hf' e2
      have hxy:x=y∧x.plainLeaf=true:=by
       unfold eqT at e1
       obtain⟨k,hu⟩:=h4
       rw[hu]at e1
       cases x<;>cases y<;>simp[eqLeaf]at e1
       rename_i k1 n1 k2 n2 _
       cases hj:(k1==k2) with
       | false=>rw[hj]at e1;cases e1
       | true =>
        rw[hj]at e1
        simp only[cond_true,Option.some.injEq]at e1
        have e1:=eq_of_beq e1
        have hj':k1=k2:=by simpa using hj
        subst hj'
        subst e1
        exact⟨rfl,rfl⟩
      obtain⟨rfl,hp⟩:=hxy
      subst g1
      refine⟨rfl,by simp[g2],?_⟩
      intro z hz
      rcases List.mem_cons.1 hz with rfl | hz
      · exact hp
      · exact g3 z hz
   | [],_,hc=>simp at hc
   | _::_,[],hc=>simp at hc
theorem sameBits_leaf {x:PV} {c d:Value} {n:Nat} (hx:x.plainLeaf=true) (h1:VR w M x c) (h2:VR w M x d):Instr.sameBits n c d=true:=by
 cases h1<;>simp[PV.plainLeaf]at hx<;>cases h2<;>cases n<;>simp[Instr.sameBits]
theorem sameBits_agg {kc : List PV} {us vs : Array Value} {n : Nat} (hp : ∀ x ∈ kc,x.plainLeaf = true) (hu : us.size = kc.length) (hv : vs.size = kc.length) (h1 : ∀ (i : Nat) (c : PV),kc[i]? = some c → VR w M c (us.getD i undef))
    (h2:∀ (i:Nat) (c:PV),kc[i]?=some c→VR w M c (vs.getD i undef)):Instr.sameBits (n+1) (.agg us) (.agg vs)=true:=by
  unfold Instr.sameBits
  simp only[Bool.and_eq_true,beq_iff_eq,List.all_eq_true]
  refine⟨by omega,?_⟩
  rintro ⟨a,b⟩ hab
  obtain⟨i,hi,e⟩:=List.getElem_of_mem hab
  simp only[List.getElem_zip,Prod.mk.injEq]at e
  have hi':i<us.size∧i<vs.size:=by simp at hi;omega
  have hk:kc[i]?=some kc[i]:=List.getElem?_eq_getElem (by omega)
  have g1:=h1 i _ hk
  have g2:=h2 i _ hk
  rw[Array.getD,dif_pos hi'.1]at g1
  rw[Array.getD,dif_pos hi'.2]at g2
  obtain⟨e1,e2⟩:=e
  have f1:us.getInternal i hi'.1=a:=by rw[← e1];simp
  have f2:vs.getInternal i hi'.2=b:=by rw[← e2];simp
  rw[f1]at g1
  rw[f2]at g2
  exact sameBits_leaf (hp _ (List.getElem_mem (by omega))) g1 g2
theorem bytes_beq_refl (s:ByteArray):(s==s)=true:=by
 obtain⟨d⟩:=s
 show (d==d)=true
 exact beq_self_eq_true d
theorem bytes_beq_eq {s t:ByteArray} (h:(s==t)=true):s=t:=by
 obtain⟨d⟩:=s
 obtain⟨e⟩:=t
 have:(d==e)=true:=h
 rw[eq_of_beq this]
theorem eqLeaf_now {kt : TypeId} {d : TypeDesc} {k x : PV} {b : Bool} {ck cx : Value} (hd : und T kt = some d) (he : eqLeaf (und T kt) k x = some b) (hk : VR w M k ck) (hx : VR w M x cx) :
    Instr.sameNow d ck cx=some b∧(b=true→k=x):=by
  rw[hd]at he
  cases k<;>cases x<;>simp[eqLeaf]at he
  · rename_i b1 b2
    cases hk;cases hx
    cases d<;>simp at he
    subst he
    exact⟨by simp[Instr.sameNow],fun h=>by simpa using h⟩
  · rename_i k1 n1 k2 n2
    cases hk;cases hx
    cases d<;>simp at he
    cases hj:(k1==k2) with
    | false=>rw[hj]at he;cases he
    | true =>
     rw[hj]at he
     simp only[cond_true,Option.some.injEq]at he
     have hj':k1=k2:=by simpa using hj
     subst hj' he
     exact⟨by simp[Instr.sameNow],fun h=>by simpa using h⟩
  · rename_i s1 s2
    cases hk;cases hx
    cases d<;>simp at he
    subst he
    exact⟨by simp[Instr.sameNow],fun h=>by rw[bytes_beq_eq h]⟩
theorem findNow_leaf {kt : TypeId} {d : TypeDesc} {k : PV} {ck : Value} (hd : und T kt = some d) (hk : VR w M k ck) : ∀ {es : List (PV × PV)} {E : List MapEntry} {q : Option Nat} (j : Nat),es.length = E.length →
    (∀ (i:Nat) (p:PV × PV) (e:MapEntry),es[i]?=some p→E[i]?=some e→VR w M p.1 e.key∧VR w M p.2 e.val)→mapFindL T kt k es=some q →
      Instr.findNow d ck E j=some (q.bind fun i=>(E[i]?).map fun e=>(j+i,e.val))∧∀ i,q=some i→∃ p e,es[i]?=some p∧E[i]?=some e∧p.1=k:=by
  intro es
  induction es with
  | nil =>
   intro E q j hl _ hq
   have:E=[]:=List.length_eq_zero_iff.1 (by simpa using hl.symm)
   subst this
   simp[mapFindL]at hq
   subst hq
   exact⟨rfl,fun i h=>by cases h⟩
  | cons p es ih =>
   intro E q j hl hE hq
   match E,hl with
   | [],hl=>simp at hl
   | e::E,hl =>
    obtain⟨he1,_⟩:=hE 0 p e rfl rfl
    unfold mapFindL at hq
    cases hq1:eqLeaf (und T kt) k p.1 with
    | none=>rw[hq1]at hq;cases hq
    | some b =>
     rw[hq1]at hq
     obtain⟨n1,n2⟩:=eqLeaf_now hd hq1 hk he1
     cases b with
     | true =>
      simp only[Option.some.injEq]at hq
      subst hq
      exact⟨by simp[Instr.findNow,n1],fun i hi=>by cases hi;exact⟨p,e,rfl,rfl,(n2 rfl).symm⟩⟩
     | false =>
      simp only[Option.map_eq_some_iff]at hq
      obtain⟨q',hq',rfl⟩:=hq
      obtain⟨g1,g2⟩:=ih (j+1) (by simpa using hl) (fun i p e h1 h2=>hE (i+1) p e (by simpa using h1) (by simpa using h2)) hq'
      refine⟨?_,fun i hi=>?_⟩
      · simp only[Instr.findNow,n1,g1]
        cases q' with
        | none=>rfl
        | some i=>simp only[Option.bind_some,Option.map_some,List.getElem?_cons_succ,show j+1+i=j+(i+1) by omega]
      · cases q' with
        | none=>cases hi
        | some i' =>
         simp only[Option.map_some,Option.some.injEq]at hi
         subst hi
         obtain⟨p2,e2,k1,k2,k3⟩:=g2 i' rfl
         exact⟨p2,e2,by simpa using k1,by simpa using k2,k3⟩
theorem run_findLeaf (ok : TabOk P T) {kt : TypeId} {k : PV} {ck : Value} (hk : VR w M k ck) (hl : leafKey T kt = true) {es : List (PV × PV)} {E : List MapEntry} {q : Option Nat} (hn : es.length = E.length)
    (hE:∀ (i:Nat) (p:PV × PV) (e:MapEntry),es[i]?=some p→E[i]?=some e→VR w M p.1 e.key∧VR w M p.2 e.val) (hq:mapFindL T kt k es=some q) :
    (Instr.findKey kt ck E).run P w=.ok (q.bind fun i=>(E[i]?).map fun e=>(i,e.val)) w∧∀ i,q=some i→∃ p e,es[i]?=some p∧E[i]?=some e∧p.1=k:=by
  unfold leafKey at hl
  cases hd:und T kt with
  | none=>rw[hd]at hl;cases hl
  | some d =>
   obtain⟨g1,g2⟩:=findNow_leaf hd hk 0 hn hE hq
   refine⟨?_,g2⟩
   unfold Instr.findKey
   simp only[Sem.run_bind,run_und (ok.und hd),Result.andThen_ok,g1,Nat.zero_add,Sem.run_pure]
theorem run_checkLeaf (ok:TabOk P T) {kt:TypeId} (hl:leafKey T kt=true) {em:Bool} {n:Nat} {ck:Value}:(Instr.checkKey em (n+1) kt ck).run P w=.ok () w:=by
 unfold leafKey at hl
 cases hd:und T kt with
 | none=>rw[hd]at hl;cases hl
 | some d =>
  rw[hd]at hl
  rw[Instr.checkKey]
  simp only[Sem.run_bind,run_und (ok.und hd),Result.andThen_ok]
  cases d<;>simp at hl<;>rfl
theorem sameBits_key {x:PV} {c d:Value} {n:Nat} (hx:x.keyLeaf=true) (h1:VR w M x c) (h2:VR w M x d):Instr.sameBits n c d=true:=by
 cases h1<;>simp[PV.keyLeaf]at hx<;>cases h2<;>cases n<;>simp[Instr.sameBits,bytes_beq_refl]
theorem sim_mapUpdateL (ok : TabOk P T) (r : Rel w0 Pr M0 M β st a w) {h' : Nat → Option Blk} (hsub : ∀ s b,h' s = some b → look st.heap s = some b) {t : TypeId} {m k v : AV} {cm ck cv : Value}
    (hm:AR w M β (look st.heap) m cm) (hk:AR w M β (look st.heap) k ck) (hv:AR w M β (look st.heap) v cv):StSim P w0 Pr M0 β st a w d (stepMapUpdateL T h' t m k v) (do Instr.mapUpdate t cm ck cv;pure .skip):=by
  unfold stepMapUpdateL
  split
  · rename_i kt et s k v hu
    have hu:=ok.und hu
    split
    · rename_i u es hl0
      have hl:=hsub _ _ hl0
      refine StSim.chk fun hb=>StSim.chk fun hf=>?_
      simp only[Bool.and_eq_true]at hb
      obtain⟨hb1,hb2,hb3⟩:=hb
      cases hm with
      | ptrR _ _ _ _ _ g1=>rw[hl]at g1;cases g1
      | ptrRE _ _ g1=>rw[hl]at g1;cases g1
      | ptrM _ u' es' b o g1 g2 =>
       cases r.heap s _ hl with
       | mp _ _ b' o' E n k1 k2 k3 k4 =>
        rw[g2]at k1;cases k1
        cases hk with
        | p _ _ hk =>
        cases hv with
        | p _ _ hv =>
        obtain⟨q,hq⟩:=Option.isSome_iff_exists.1 hf
        rw[hq,Option.getD_some]
        obtain⟨hfind,f2⟩:=run_findLeaf (P:=P) ok hk hb1 (E:=E.toList) (by simpa using k3.1.symm) (fun i p e hi he=>k4 i p e hi (by simpa using he)) hq
        have hobj:(getObj b).run P w=.ok (.map E n) w:=by simp[getObj,Sem.run,k2]
        have hset:∀ o':Obj,(setObj b o').run P w=.ok () { w with heap:=w.heap.setIfInBounds b o' }:=fun o'=>by simp[setObj,Sem.run,k2]
        have hchk:=run_checkLeaf (P:=P) (w:=w) ok hb1 (em:=false) (n:=9999) (ck:=ck)
        cases q with
        | none =>
         have run:(Instr.mapUpdate t (.map (some b)) ck cv).run P w=.ok () { w with heap:=w.heap.setIfInBounds b (.map (E.push { key:=ck,val:=cv,born:=n }) (n+1)) }:=by
          simp only[Instr.mapUpdate,Sem.run_bind,run_und hu,Result.andThen_ok,hobj,hchk,hfind,Option.bind_none,hset]
         refine StSim.ret (h5:=fun _=>chg_one (.inr ⟨_,hl,rfl⟩)) (nv:=.skip) (c:=undef) (M':=M) (β':=β) (by simp only[Sem.run_bind,run,Result.andThen_ok,Sem.run_pure];rfl) (.inr ⟨rfl,rfl⟩) fun _=>?_
         rw[apply_chg]
         have hw:=r.writeM (es':=mapPut es k v none) (w':={ w with heap:=w.heap.setIfInBounds b (.map (E.push { key:=ck,val:=cv,born:=n }) (n+1)) }) hl g2 k2 rfl rfl rfl rfl (by
          have:=mapWf_push k3 ck cv
          simpa [mapPut] using this) (by
          intro hmono i p e hi he
          simp only[mapPut,List.getElem?_append]at hi
          rw[Array.getElem?_push,k3.1]at he
          split at hi
          · rename_i hlt
            rw[if_neg (by omega)]at he
            exact⟨hmono _ _ (k4 i p e hi he).1,hmono _ _ (k4 i p e hi he).2⟩
          · rename_i hge
            have hi0:i-es.length=0:=by
             have:=(List.getElem?_eq_some_iff.1 hi).1
             simp at this;omega
            have:i=es.length:=by omega
            rw[if_pos this]at he
            rw[hi0]at hi
            simp only[List.getElem?_cons_zero,Option.some.injEq]at hi he
            subst hi he
            exact⟨hmono _ _ hk,hmono _ _ hv⟩)
         exact hw.setEnv d (v:=.undef) (c:=undef) (.undef _)
        | some i =>
         obtain⟨p,e,j1,j2,j3⟩:=f2 i rfl
         have j2':E[i]?=some e:=by simpa using j2
         have j1':=(k4 i p e j1 j2').1
         rw[j3]at j1'
         have hsb:Instr.sameBits 10000 e.key ck=true:=sameBits_key hb3 j1' hk
         have hst:(Instr.keyThatStays (((E[i]?).map (·.key)).getD ck) ck).run P w=.ok ck w:=by
          rw[j2',Option.map_some,Option.getD_some]
          unfold Instr.keyThatStays
          rw[if_pos hsb]
          rfl
         have run:(Instr.mapUpdate t (.map (some b)) ck cv).run P w=.ok () { w with heap:=w.heap.setIfInBounds b (.map (E.modify i fun e=>{ e with key:=ck,val:=cv }) n) }:=by
          simp only[Instr.mapUpdate,Sem.run_bind,run_und hu,Result.andThen_ok,hobj,hchk,hfind,Option.bind_some,j2,Option.map_some,hst,hset]
         refine StSim.ret (h5:=fun _=>chg_one (.inr ⟨_,hl,rfl⟩)) (nv:=.skip) (c:=undef) (M':=M) (β':=β) (by simp only[Sem.run_bind,run,Result.andThen_ok,Sem.run_pure];rfl) (.inr ⟨rfl,rfl⟩) fun _=>?_
         rw[apply_chg]
         have hw:=r.writeM (es':=mapPut es k v (some i)) (w':={ w with heap:=w.heap.setIfInBounds b (.map (E.modify i fun e=>{ e with key:=ck,val:=cv }) n) }) hl g2 k2 rfl rfl rfl rfl (by
          have:=mapWf_modify k3 (i:=i) (f:=fun e=>{ e with key:=ck,val:=cv }) (fun _=>rfl)
          simpa [mapPut] using this) (by
          intro hmono j p' e' hj he
          simp only[mapPut,List.getElem?_set]at hj
          rw[Array.getElem?_modify]at he
          by_cases hij:i=j
          · subst hij
            have hlt:=(List.getElem?_eq_some_iff.1 j1).1
            rw[if_pos rfl,if_pos hlt]at hj
            rw[if_pos rfl,j2']at he
            simp only[Option.map_some,Option.some.injEq]at hj he
            subst hj he
            have:es.getD i (.nil,.nil)=p:=by simp[List.getD,j1]
            rw[this,j3]
            exact⟨hmono _ _ hk,hmono _ _ hv⟩
          · rw[if_neg hij]at hj
            rw[if_neg hij]at he
            exact⟨hmono _ _ (k4 j p' e' hj he).1,hmono _ _ (k4 j p' e' hj he).2⟩)
         exact hw.setEnv d (v:=.undef) (c:=undef) (.undef _)
    · exact StSim.fail
  · exact StSim.fail
theorem keyFind_leaf {kt:TypeId} {k:PV} {es:List (PV × PV)} (h:∀ kc,k≠.agg kc):keyFind T kt k es=bif leafKey T kt&&k.keyLeaf then mapFindL T kt k es else none:=by
 cases k<;>first | rfl | (exact absurd rfl (h _))
theorem keyFind_ok (ok : TabOk P T) {kt : TypeId} {k : PV} {ck : Value} (hk : VR w M k ck) {es : List (PV × PV)} {E : List MapEntry} {q : Option Nat} (hn : es.length = E.length)
    (hE:∀ (i:Nat) (p:PV × PV) (e:MapEntry),es[i]?=some p→E[i]?=some e→VR w M p.1 e.key∧VR w M p.2 e.val) (hq:keyFind T kt k es=some q) {em:Bool} :
    (Instr.checkKey em 10000 kt ck).run P w=.ok () w∧∃ r,(Instr.findKey kt ck E).run P w=.ok r w∧(q=none→r=none)∧∀ i,q=some i→∃ p e j,es[i]?=some p∧E[i]?=some e∧r=some (j,e.val):=by
  have leaf:leafKey T kt=true→mapFindL T kt k es=some q→(Instr.checkKey em 10000 kt ck).run P w=.ok () w∧∃ r,(Instr.findKey kt ck E).run P w=.ok r w∧(q=none→r=none)∧∀ i,q=some i→∃ p e j,es[i]?=some p∧E[i]?=some e∧r=some (j,e.val):=by
   intro h1 h2
   obtain⟨g1,g2⟩:=run_findLeaf (P:=P) ok hk h1 hn hE h2
   refine⟨run_checkLeaf ok h1 (n:=9999),_,g1,fun h=>by rw[h];rfl,fun i hi=>?_⟩
   obtain⟨p,e,k1,k2,_⟩:=g2 i hi
   exact⟨p,e,i,k1,k2,by rw[hi];simp[k2]⟩
  cases k with
  | agg kc =>
   simp only[keyFind]at hq
   cases hb:(flatKey T kt&&Nat.beq kc.length (nFields T kt)) with
   | false=>rw[hb]at hq;cases hq
   | true =>
    rw[hb,cond_true]at hq
    simp only[Bool.and_eq_true]at hb
    obtain⟨hb1,hb3⟩:=hb
    have hb3:=Nat.eq_of_beq_eq_true hb3
    cases hk with
    | agg _ vs hvn hvl hvc =>
    obtain⟨fs,hfs⟩:∃ fs,und T kt=some (.struct fs):=by
     unfold flatKey at hb1
     simp only[Bool.and_eq_true]at hb1
     have:=hb1.2
     split at this
     · rename_i fs hfs;exact⟨fs,hfs⟩
     · cases this
    have hplain:plainT T kt=true:=by
     unfold flatKey at hb1
     simp only[Bool.and_eq_true]at hb1
     exact hb1.1
    obtain⟨f1,f2⟩:=run_findAsking (P:=P) ok hplain hfs hvn hvc (E:=E) 0 hn hE hq
    have hfl:fs.size≤vs.size:=by
     have:nFields T kt=fs.size:=by unfold nFields;rw[hfs]
     omega
    refine⟨run_checkFlat (P:=P) (w:=w) ok hb1 (cs:=vs) hfs hfl (em:=em) (n:=9998),_,(run_findKey_eq w (by rw[ok.und hfs]) (.agg vs) E).trans f1,fun h=>by rw[h];rfl,fun i hi=>?_⟩
    obtain⟨p,e,c,us,k1,k2,_⟩:=f2 i hi
    exact⟨p,e,0+i,k1,k2,by rw[hi];simp[k2]⟩
  | _ =>
   rw[keyFind_leaf (by intro kc h;cases h)]at hq
   revert hq
   generalize hbb:(leafKey T kt&&PV.keyLeaf _)=bb
   intro hq
   cases bb with
   | false=>cases hq
   | true =>
    simp only[Bool.and_eq_true]at hbb
    exact leaf hbb.1 hq
theorem sim_lookup (ok : TabOk P T) {h : Nat → Option Blk} {h' : Nat → Option Blk} (hsub : ∀ s b,h' s = some b → h s = some b) (hh : ∀ s b,h s = some b → BR w M β h s b) {t : TypeId} {m k : AV} {b : Bool} {cm ck : Value}
    (hm:AR w M β h m cm) (hk:AR w M β h k ck):ValSim P w M β h (stepLookup T h' t m k b) (Instr.lookup t cm ck b):=by
  unfold stepLookup
  split
  · rename_i kt et hu
    have hu:=ok.und hu
    split
    · rename_i z kd k hz hsh
      obtain⟨inf,zv,hi1,hi2,hi3⟩:=ok.zero hz
      have hzv:VR w M z zv:=ofValue_ok hi3
      cases hk with
      | p _ _ hk =>
      have core : ∀ (es : List (PV × PV)) (E : Array MapEntry),es.length = E.size → (∀ (i : Nat) (p : PV × PV) (e : MapEntry),es[i]? = some p → E.toList[i]? = some e → VR w M p.1 e.key ∧ VR w M p.2 e.val) →
          ∀ (x:Value),((x=.map none∧E=#[])∨∃ r n,x=.map (some r)∧(getObj r).run P w=.ok (.map E n) w)→ValSim P w M β h (lookDT T kt kd z es k b) (Instr.lookup t x ck b):=by
        intro es E hn hE x hx
        unfold lookDT
        refine ValSim.chk fun hf=>ValSim.chk fun hkd=>?_
        obtain⟨q,hq⟩:=Option.isSome_iff_exists.1 hf
        rw[hq,Option.getD_some]at hkd ⊢
        obtain⟨h1,r,h2,h3,h4⟩:=keyFind_ok (P:=P) ok hk (E:=E.toList) (by simpa using hn) hE hq (em:=E.isEmpty)
        have hzr:=run_zero (P:=P) (w:=w) hi1 hi2
        have fin:∀ (v:PV) (c:Value) (o:Bool),VR w M v c→kindOk kd v=true→AR w M β h (bif b then .tup [.p (eta kd v),.p (.bool o)] else .p (eta kd v)) (if b then .tuple #[c,.bool o] else c):=by
         intro v c o hv hkv
         have he:=eta_ok hkv hv
         cases b with
         | false=>exact .p _ _ he
         | true =>
          refine .tup _ _ rfl ?_
          intro i x hx
          match i,hx with
          | 0,hx=>cases hx;exact .p _ _ he
          | 1,hx=>cases hx;exact .p _ _ (.bool o)
          | i+2,hx=>simp at hx
        cases q with
        | none =>
         have hr:=h3 rfl
         subst hr
         refine ValSim.ret (fin _ zv false hzv hkd) ?_
         rcases hx with ⟨rfl,rfl⟩ | ⟨r,n,rfl,hr⟩
         · simp only[Instr.lookup,Sem.run_bind,run_und hu,Result.andThen_ok,h1,h2,hzr,Sem.run_pure]
         · simp only[Instr.lookup,Sem.run_bind,run_und hu,Result.andThen_ok,hr,h1,h2,hzr,Sem.run_pure]
        | some i =>
         obtain⟨p,e,j,k1,k2,k3⟩:=h4 i rfl
         subst k3
         have hv:=(hE i p e k1 k2).2
         have hp:mapAt z es (some i)=p.2:=by
          show (es.getD i (.nil,.nil)).2=_
          rw[List.getD_eq_getElem?_getD,k1];rfl
         rw[hp]at hkd ⊢
         refine ValSim.ret (fin _ e.val true hv hkd) ?_
         rcases hx with ⟨rfl,rfl⟩ | ⟨r,n,rfl,hr⟩
         · simp only[Instr.lookup,Sem.run_bind,run_und hu,Result.andThen_ok,h1,h2,Sem.run_pure]
         · simp only[Instr.lookup,Sem.run_bind,run_und hu,Result.andThen_ok,hr,h1,h2,Sem.run_pure]
      split
      · rename_i s
        split
        · rename_i u es hl0
          have hl:=hsub _ _ hl0
          cases hm with
          | ptrR _ _ _ _ _ g1=>rw[hl]at g1;cases g1
          | ptrRE _ _ g1=>rw[hl]at g1;cases g1
          | ptrM _ u' es' b0 o g1 g2 =>
           cases hh s _ hl with
           | mp _ _ b' o' E n k1 k2 k3 k4 =>
            rw[g2]at k1;cases k1
            exact core es E k3.1.symm (fun i p e hi he=>k4 i p e hi (by simpa using he)) _ (.inr ⟨_,n,rfl,by simp[getObj,Sem.run,k2]⟩)
        · exact ValSim.fail
      · rename_i v
        refine ValSim.chk fun hm'=>?_
        cases v<;>simp only[PV.isMap,Bool.false_eq_true]at hm'
        · rename_i ks vs
          have hlen:=Nat.eq_of_beq_eq_true hm'
          cases hm with
          | p _ _ hm =>
          cases hm with
          | mapv _ _ b0 E n g1 g2 g3 g4 g5 g6 =>
           refine core (ks.zip vs) E (by simp[g3.1,hlen]) (fun i p e hi he=>?_) _ (.inr ⟨_,n,rfl,by simp[getObj,Sem.run,g2]⟩)
           rw[List.getElem?_zip_eq_some]at hi
           exact⟨g5 i _ e hi.1 (by simpa using he),g6 i _ e hi.2 (by simpa using he)⟩
        · cases hm with
          | p _ _ hm =>
          cases hm with
          | nilm =>
           exact core [] #[] rfl (fun i p e hi he=>by simp at hi) _ (.inl ⟨rfl,rfl⟩)
      · exact ValSim.fail
    · exact ValSim.fail
  · exact ValSim.fail
theorem sim_mapUpdate (ok : TabOk P T) (r : Rel w0 Pr M0 M β st a w) {h' : Nat → Option Blk} (hsub : ∀ s b,h' s = some b → look st.heap s = some b) {t : TypeId} {m k v : AV} {cm ck cv : Value}
    (hm:AR w M β (look st.heap) m cm) (hk:AR w M β (look st.heap) k ck) (hv:AR w M β (look st.heap) v cv):StSim P w0 Pr M0 β st a w d (stepMapUpdate T h' t m k v) (do Instr.mapUpdate t cm ck cv;pure .skip):=by
  unfold stepMapUpdate
  split
  case h_2=>exact sim_mapUpdateL ok r hsub hm hk hv
  rename_i kc
  split
  · rename_i kt et s v hu
    have hu:=ok.und hu
    split
    · rename_i u es hl0
      have hl:=hsub _ _ hl0
      refine StSim.chk fun hb=>StSim.chk fun hf=>?_
      simp only[Bool.and_eq_true]at hb
      obtain⟨hb1,hb2,hb3⟩:=hb
      have hb3:=Nat.eq_of_beq_eq_true hb3
      cases hm with
      | ptrR _ _ _ _ _ g1=>rw[hl]at g1;cases g1
      | ptrRE _ _ g1=>rw[hl]at g1;cases g1
      | ptrM _ u' es' b o g1 g2 =>
       cases r.heap s _ hl with
       | mp _ _ b' o' E n k1 k2 k3 k4 =>
        rw[g2]at k1;cases k1
        cases hk with
        | p _ _ hk =>
        cases hk with
        | agg _ vs hvn hvl hvc =>
        cases hv with
        | p _ _ hv =>
        obtain⟨q,hq⟩:=Option.isSome_iff_exists.1 hf
        rw[hq,Option.getD_some]
        obtain⟨fs,hfs⟩:∃ fs,und T kt=some (.struct fs):=by
         unfold flatKey at hb1
         simp only[Bool.and_eq_true]at hb1
         have:=hb1.2
         split at this
         · rename_i fs hfs;exact⟨fs,hfs⟩
         · cases this
        have hplain:plainT T kt=true:=by
         unfold flatKey at hb1
         simp only[Bool.and_eq_true]at hb1
         exact hb1.1
        have hflat:flatFs T 0 fs.toList=true:=by
         unfold flatKey at hb1
         rw[hfs]at hb1
         simp only[Bool.and_eq_true]at hb1
         exact hb1.2
        obtain⟨f1,f2⟩:=run_findAsking (P:=P) ok hplain hfs hvn hvc (E:=E.toList) 0 (by simpa using k3.1.symm) (fun i p e hi he=>k4 i p e hi (by simpa using he)) hq
        have hobj:(getObj b).run P w=.ok (.map E n) w:=by simp[getObj,Sem.run,k2]
        have hset:∀ o':Obj,(setObj b o').run P w=.ok () { w with heap:=w.heap.setIfInBounds b o' }:=fun o'=>by simp[setObj,Sem.run,k2]
        have hfl:fs.size≤vs.size:=by
         have:nFields T kt=fs.size:=by unfold nFields;rw[hfs]
         omega
        have hchk:=run_checkFlat (P:=P) (w:=w) ok hb1 (cs:=vs) hfs hfl (em:=false) (n:=9998)
        have hfind:(Instr.findKey kt (.agg vs) E.toList).run P w=.ok (q.bind fun i=>(E.toList[i]?).map fun e=>(0+i,e.val)) w:=by
         rw[run_findKey_eq w (by rw[ok.und hfs]) (.agg vs) E.toList]
         exact f1
        cases q with
        | none =>
         have run:(Instr.mapUpdate t (.map (some b)) (.agg vs) cv).run P w=.ok () { w with heap:=w.heap.setIfInBounds b (.map (E.push { key:=.agg vs,val:=cv,born:=n }) (n+1)) }:=by
          simp only[Instr.mapUpdate,Sem.run_bind,run_und hu,Result.andThen_ok,hobj,hchk,hfind,Option.bind_none,hset]
         refine StSim.ret (h5:=fun _=>chg_one (.inr ⟨_,hl,rfl⟩)) (nv:=.skip) (c:=undef) (M':=M) (β':=β) (by simp only[Sem.run_bind,run,Result.andThen_ok,Sem.run_pure];rfl) (.inr ⟨rfl,rfl⟩) fun _=>?_
         rw[apply_chg]
         have hw:=r.writeM (es':=mapPut es (.agg kc) v none) (w':={ w with heap:=w.heap.setIfInBounds b (.map (E.push { key:=.agg vs,val:=cv,born:=n }) (n+1)) }) hl g2 k2 rfl rfl rfl rfl (by
          have:=mapWf_push k3 (.agg vs) cv
          simpa [mapPut] using this) (by
          intro hmono i p e hi he
          simp only[mapPut,List.getElem?_append]at hi
          rw[Array.getElem?_push,k3.1]at he
          split at hi
          · rename_i hlt
            rw[if_neg (by omega)]at he
            exact⟨hmono _ _ (k4 i p e hi he).1,hmono _ _ (k4 i p e hi he).2⟩
          · rename_i hge
            have hi0:i-es.length=0:=by
             have:=(List.getElem?_eq_some_iff.1 hi).1
             simp at this;omega
            have:i=es.length:=by omega
            rw[if_pos this]at he
            rw[hi0]at hi
            simp only[List.getElem?_cons_zero,Option.some.injEq]at hi he
            subst hi he
            exact⟨hmono _ _ (.agg kc vs hvn hvl hvc),hmono _ _ hv⟩)
         exact hw.setEnv d (v:=.undef) (c:=undef) (.undef _)
        | some i =>
         obtain⟨p,e,c,us,j1,j2,j3,j4,j5⟩:=f2 i rfl
         have j2':E[i]?=some e:=by simpa using j2
         have j1':=(k4 i p e j1 j2').1
         rw[j3,j4]at j1'
         have hsame:kc=c∧∀ x∈kc,x.plainLeaf=true:=by
          unfold eqT at j5
          rw[hfs]at j5
          obtain⟨x1,x2,x3⟩:=eqFs_flat hflat j5
          exact⟨x1,x3⟩
         obtain⟨rfl,hpl⟩:=hsame
         have hsb:Instr.sameBits 10000 (.agg us) (.agg vs)=true:=by
          cases j1' with
          | agg _ _ hn hl1 hh=>exact sameBits_agg (n:=9999) hpl hn hvn hh hvc
         have hst:(Instr.keyThatStays (((E[i]?).map (·.key)).getD (.agg vs)) (.agg vs)).run P w=.ok (.agg vs) w:=by
          rw[j2',Option.map_some,Option.getD_some,j4]
          unfold Instr.keyThatStays
          rw[if_pos hsb]
          rfl
         have run:(Instr.mapUpdate t (.map (some b)) (.agg vs) cv).run P w=.ok () { w with heap:=w.heap.setIfInBounds b (.map (E.modify i fun e=>{ e with key:=.agg vs,val:=cv }) n) }:=by
          simp only[Instr.mapUpdate,Sem.run_bind,run_und hu,Result.andThen_ok,hobj,hchk,hfind,Option.bind_some,j2,Option.map_some,Nat.zero_add,hst,hset]
         refine StSim.ret (h5:=fun _=>chg_one (.inr ⟨_,hl,rfl⟩)) (nv:=.skip) (c:=undef) (M':=M) (β':=β) (by simp only[Sem.run_bind,run,Result.andThen_ok,Sem.run_pure];rfl) (.inr ⟨rfl,rfl⟩) fun _=>?_
         rw[apply_chg]
         have hw:=r.writeM (es':=mapPut es (.agg kc) v (some i)) (w':={ w with heap:=w.heap.setIfInBounds b (.map (E.modify i fun e=>{ e with key:=.agg vs,val:=cv }) n) }) hl g2 k2 rfl rfl rfl rfl (by
          have:=mapWf_modify k3 (i:=i) (f:=fun e=>{ e with key:=.agg vs,val:=cv }) (fun _=>rfl)
          simpa [mapPut] using this) (by
          intro hmono j p' e' hj he
          simp only[mapPut,List.getElem?_set]at hj
          rw[Array.getElem?_modify]at he
          by_cases hij:i=j
          · subst hij
            have hlt:=(List.getElem?_eq_some_iff.1 j1).1
            rw[if_pos rfl,if_pos hlt]at hj
            rw[if_pos rfl,j2']at he
            simp only[Option.map_some,Option.some.injEq]at hj he
            subst hj he
            have:es.getD i (.nil,.nil)=p:=by simp[List.getD,j1]
            rw[this,j3]
            exact⟨hmono _ _ (.agg kc vs hvn hvl hvc),hmono _ _ hv⟩
          · rw[if_neg hij]at hj
            rw[if_neg hij]at he
            exact⟨hmono _ _ (k4 j p' e' hj he).1,hmono _ _ (k4 j p' e' hj he).2⟩)
         exact hw.setEnv d (v:=.undef) (c:=undef) (.undef _)
    · exact StSim.fail
  · exact StSim.fail
theorem sim_mapEntry (ok : TabOk P T) (r : Rel w0 Pr M0 M β st a w) {h' : Nat → Option Blk} (hsub : ∀ s b,h' s = some b → look st.heap s = some b) {t : TypeId} {m k : AV} {cm ck : Value}
    (hm:AR w M β (look st.heap) m cm) (hk:AR w M β (look st.heap) k ck):StSim P w0 Pr M0 β st a w d (stepMapEntry T h' t m k) (do pure (.value (← Instr.mapEntry t cm ck))):=by
  unfold stepMapEntry
  split
  · rename_i kt et s kc hu
    have hu:=ok.und hu
    split
    · rename_i u es z hl0 hz
      have hl:=hsub _ _ hl0
      obtain⟨inf,zv,hi1,hi2,hi3⟩:=ok.zero hz
      have hzv:∀ (w:World) (M:Nat→Prop),VR w M z zv:=fun w M=>ofValue_ok hi3
      refine StSim.chk fun hb=>StSim.chk fun hf=>?_
      simp only[Bool.and_eq_true]at hb
      obtain⟨hb1,hb2,hb3⟩:=hb
      have hb3:=Nat.eq_of_beq_eq_true hb3
      cases hm with
      | ptrR _ _ _ _ _ g1=>rw[hl]at g1;cases g1
      | ptrRE _ _ g1=>rw[hl]at g1;cases g1
      | ptrM _ u' es' b o g1 g2 =>
       cases r.heap s _ hl with
       | mp _ _ b' o' E n k1 k2 k3 k4 =>
        rw[g2]at k1;cases k1
        cases hk with
        | p _ _ hk =>
        cases hk with
        | agg _ vs hvn hvl hvc =>
        obtain⟨q,hq⟩:=Option.isSome_iff_exists.1 hf
        rw[hq,Option.getD_some]
        obtain⟨fs,hfs⟩:∃ fs,und T kt=some (.struct fs):=by
         unfold flatKey at hb1
         simp only[Bool.and_eq_true]at hb1
         have:=hb1.2
         split at this
         · rename_i fs hfs;exact⟨fs,hfs⟩
         · cases this
        have hplain:plainT T kt=true:=by
         unfold flatKey at hb1
         simp only[Bool.and_eq_true]at hb1
         exact hb1.1
        have hflat:flatFs T 0 fs.toList=true:=by
         unfold flatKey at hb1
         rw[hfs]at hb1
         simp only[Bool.and_eq_true]at hb1
         exact hb1.2
        obtain⟨f1,f2⟩:=run_findAsking (P:=P) ok hplain hfs hvn hvc (E:=E.toList) 0 (by simpa using k3.1.symm) (fun i p e hi he=>k4 i p e hi (by simpa using he)) hq
        have hobj:(getObj b).run P w=.ok (.map E n) w:=by simp[getObj,Sem.run,k2]
        have hset:∀ o':Obj,(setObj b o').run P w=.ok () { w with heap:=w.heap.setIfInBounds b o' }:=fun o'=>by simp[setObj,Sem.run,k2]
        have hfl:fs.size≤vs.size:=by
         have:nFields T kt=fs.size:=by unfold nFields;rw[hfs]
         omega
        have hchk:=run_checkFlat (P:=P) (w:=w) ok hb1 (cs:=vs) hfs hfl (em:=false) (n:=9998)
        have hfind:(Instr.findKey kt (.agg vs) E.toList).run P w=.ok (q.bind fun i=>(E.toList[i]?).map fun e=>(0+i,e.val)) w:=by
         rw[run_findKey_eq w (by rw[ok.und hfs]) (.agg vs) E.toList]
         exact f1
        have hzr:=run_zero (P:=P) (w:=w) hi1 hi2
        have tupR:∀ (w':World) (M':Nat→Prop) (h2:Nat→Option Blk) (v:PV) (c:Value) (j:Nat),VR w' M' v c→AR w' M' β h2 (.tup [.p v,.p (.int .i64 ((j:Nat):Int))]) (.tuple #[c,.int .i64 ((j:Nat):Int)]):=by
         intro w' M' h2 v c j hv
         refine .tup _ _ rfl ?_
         intro i x hx
         match i,hx with
         | 0,hx=>cases hx;exact .p _ _ hv
         | 1,hx=>cases hx;exact .p _ _ (.int _ _)
         | i+2,hx=>simp at hx
        cases q with
        | none =>
         have run:(Instr.mapEntry t (.map (some b)) (.agg vs)).run P w=.ok (.tuple #[zv,.int .i64 ((es.length:Nat):Int)]) { w with heap:=w.heap.setIfInBounds b (.map (E.push { key:=.agg vs,val:=zv,born:=n }) (n+1)) }:=by
          have hn:n=es.length:=k3.2.2.2.1
          simp only[Instr.mapEntry,Sem.run_bind,run_und hu,Result.andThen_ok,hobj,hchk,hfind,Option.bind_none,hzr,hset,Sem.run_pure,goInt]
          rw[hn]
         have hw:=r.writeM (es':=mapPut es (.agg kc) z none) (w':={ w with heap:=w.heap.setIfInBounds b (.map (E.push { key:=.agg vs,val:=zv,born:=n }) (n+1)) }) hl g2 k2 rfl rfl rfl rfl (by
          have:=mapWf_push k3 (.agg vs) zv
          simpa [mapPut] using this) (by
          intro hmono i p e hi he
          simp only[mapPut,List.getElem?_append]at hi
          rw[Array.getElem?_push,k3.1]at he
          split at hi
          · rename_i hlt
            rw[if_neg (by omega)]at he
            exact⟨hmono _ _ (k4 i p e hi he).1,hmono _ _ (k4 i p e hi he).2⟩
          · rename_i hge
            have hi0:i-es.length=0:=by
             have:=(List.getElem?_eq_some_iff.1 hi).1
             simp at this;omega
            have:i=es.length:=by omega
            rw[if_pos this]at he
            rw[hi0]at hi
            simp only[List.getElem?_cons_zero,Option.some.injEq]at hi he
            subst hi he
            exact⟨hmono _ _ (.agg kc vs hvn hvl hvc),hzv _ _⟩)
         refine StSim.ret (h5:=fun _=>chg_one (.inr ⟨_,hl,rfl⟩)) (c:=.tuple #[zv,.int .i64 ((es.length:Nat):Int)]) (M':=M) (β':=β) (by simp only[Sem.run_bind,run,Result.andThen_ok,Sem.run_pure];rfl) (.inl rfl) fun _=>?_
         rw[apply_chg]
         exact hw.setEnv d (tupR _ _ _ _ _ _ (hzv _ _))
        | some i =>
         obtain⟨p,e,c,us,j1,j2,j3,j4,j5⟩:=f2 i rfl
         have j2':E[i]?=some e:=by simpa using j2
         have j1':=(k4 i p e j1 j2').1
         rw[j3,j4]at j1'
         have hsame:kc=c∧∀ x∈kc,x.plainLeaf=true:=by
          unfold eqT at j5
          rw[hfs]at j5
          obtain⟨x1,x2,x3⟩:=eqFs_flat hflat j5
          exact⟨x1,x3⟩
         obtain⟨rfl,hpl⟩:=hsame
         have hsb:Instr.sameBits 10000 (.agg us) (.agg vs)=true:=by
          cases j1' with
          | agg _ _ hn hl1 hh=>exact sameBits_agg (n:=9999) hpl hn hvn hh hvc
         have hst:(Instr.keyThatStays (((E[i]?).map (·.key)).getD (.agg vs)) (.agg vs)).run P w=.ok (.agg vs) w:=by
          rw[j2',Option.map_some,Option.getD_some,j4]
          unfold Instr.keyThatStays
          rw[if_pos hsb]
          rfl
         have hborn:e.born=i:=k3.2.2.2.2 i e j2'
         have run:(Instr.mapEntry t (.map (some b)) (.agg vs)).run P w=.ok (.tuple #[e.val,.int .i64 ((i:Nat):Int)]) { w with heap:=w.heap.setIfInBounds b (.map (E.modify i fun e=>{ e with key:=.agg vs }) n) }:=by
          simp only[Instr.mapEntry,Sem.run_bind,run_und hu,Result.andThen_ok,hobj,hchk,hfind,Option.bind_some,j2,Option.map_some,Nat.zero_add,hst,hset,Sem.run_pure,goInt]
          rw[j2',Option.map_some,Option.getD_some,hborn]
         have hp2:mapAt z es (some i)=p.2:=by
          show (es.getD i (.nil,.nil)).2=_
          rw[List.getD_eq_getElem?_getD,j1];rfl
         have hmono0:=(k4 i p e j1 j2').2
         have hw:=r.writeM (es':=mapPut es (.agg kc) (mapAt z es (some i)) (some i)) (w':={ w with heap:=w.heap.setIfInBounds b (.map (E.modify i fun e=>{ e with key:=.agg vs }) n) }) hl g2 k2 rfl rfl rfl rfl (by
          have:=mapWf_modify k3 (i:=i) (f:=fun e=>{ e with key:=.agg vs }) (fun _=>rfl)
          simpa [mapPut] using this) (by
          intro hmono j p' e' hj he
          simp only[mapPut,List.getElem?_set]at hj
          rw[Array.getElem?_modify]at he
          by_cases hij:i=j
          · subst hij
            have hlt:=(List.getElem?_eq_some_iff.1 j1).1
            rw[if_pos rfl,if_pos hlt]at hj
            rw[if_pos rfl,j2']at he
            simp only[Option.map_some,Option.some.injEq]at hj he
            subst hj he
            have:es.getD i (.nil,.nil)=p:=by simp[List.getD,j1]
            rw[this,j3]
            refine⟨hmono _ _ (.agg kc vs hvn hvl hvc),?_⟩
            rw[hp2]
            exact hmono _ _ hmono0
          · rw[if_neg hij]at hj
            rw[if_neg hij]at he
            exact⟨hmono _ _ (k4 j p' e' hj he).1,hmono _ _ (k4 j p' e' hj he).2⟩)
         have hval:VR { w with heap:=w.heap.setIfInBounds b (.map (E.modify i fun e=>{ e with key:=.agg vs }) n) } M (mapAt z es (some i)) e.val:=by
          rw[hp2]
          refine hmono0.mono fun b' hb'=>⟨hb',?_⟩
          have hne:b≠b':=fun e=>(r.own s b _ (by rw[hl];rfl) g2).1 (e▸hb')
          show (w.heap.setIfInBounds b _)[b']?=_
          rw[Array.getElem?_setIfInBounds_ne hne]
         refine StSim.ret (h5:=fun _=>chg_one (.inr ⟨_,hl,rfl⟩)) (c:=.tuple #[e.val,.int .i64 ((i:Nat):Int)]) (M':=M) (β':=β) (by simp only[Sem.run_bind,run,Result.andThen_ok,Sem.run_pure];rfl) (.inl rfl) fun _=>?_
         rw[apply_chg]
         exact hw.setEnv d (tupR _ _ _ _ _ _ hval)
    · exact StSim.fail
  · exact StSim.fail
theorem find_born {E:Array MapEntry} (h:∀ (i:Nat) (e:MapEntry),E[i]?=some e→e.born=i) {j:Nat} (hj:j<E.size):E.findIdx? (fun e=>(e.born:Int)==((j:Nat):Int))=some j:=by
 rw[Array.findIdx?_eq_some_iff_getElem]
 refine⟨hj,?_,fun i hi=>?_⟩
 · have:=h j E[j] (by simp)
   simp[this]
 · have:=h i E[i] (by simp)
   simp[this]
   omega
theorem sim_entryStore (r : Rel w0 Pr M0 M β st a w) {h' : Nat → Option Blk} (hsub : ∀ s b,h' s = some b → look st.heap s = some b) {t : TypeId} {m k v : AV} {cm ck cv : Value}
    (hm:AR w M β (look st.heap) m cm) (hk:AR w M β (look st.heap) k ck) (hv:AR w M β (look st.heap) v cv):StSim P w0 Pr M0 β st a w d (stepEntryStore h' m k v) (do Instr.entryStore t cm ck cv;pure .skip):=by
  unfold stepEntryStore
  split
  · rename_i s j n v
    split
    · rename_i u es hl0
      have hl:=hsub _ _ hl0
      refine StSim.chk fun hb=>?_
      simp only[Bool.and_eq_true,decide_eq_true_eq]at hb
      obtain⟨hb1,hb2,hb3⟩:=hb
      cases hm with
      | ptrR _ _ _ _ _ g1=>rw[hl]at g1;cases g1
      | ptrRE _ _ g1=>rw[hl]at g1;cases g1
      | ptrM _ u' es' b o g1 g2 =>
       cases r.heap s _ hl with
       | mp _ _ b' o' E n' k1 k2 k3 k4 =>
        rw[g2]at k1;cases k1
        cases hk with
        | p _ _ hk =>
        cases hk with
        | int _ _ =>
        cases hv with
        | p _ _ hv =>
        have hobj:(getObj b).run P w=.ok (.map E n') w:=by simp[getObj,Sem.run,k2]
        have hset:∀ o':Obj,(setObj b o').run P w=.ok () { w with heap:=w.heap.setIfInBounds b o' }:=fun o'=>by simp[setObj,Sem.run,k2]
        have hjn:n.toNat<E.size:=by rw[k3.1];omega
        have hfi:E.findIdx? (fun e=>(e.born:Int)==n)=some n.toNat:=by
         have:=find_born k3.2.2.2.2 hjn
         rwa[Int.toNat_of_nonneg hb2]at this
        have run:(Instr.entryStore t (.map (some b)) (.int j n) cv).run P w=.ok () { w with heap:=w.heap.setIfInBounds b (.map (E.modify n.toNat fun e=>{ e with val:=cv }) n') }:=by
         simp only[Instr.entryStore,asInt,asIntOf,Sem.run_bind,Result.andThen_ok,hobj,Sem.run_pure,hfi,hset]
        refine StSim.ret (h5:=fun _=>chg_one (.inr ⟨_,hl,rfl⟩)) (nv:=.skip) (c:=undef) (M':=M) (β':=β) (by simp only[Sem.run_bind,run,Result.andThen_ok,Sem.run_pure];rfl) (.inr ⟨rfl,rfl⟩) fun _=>?_
        rw[apply_chg]
        have hw:=r.writeM (es':=es.set n.toNat ((es.getD n.toNat (.nil,.nil)).1,v)) (w':={ w with heap:=w.heap.setIfInBounds b (.map (E.modify n.toNat fun e=>{ e with val:=cv }) n') }) hl g2 k2 rfl rfl rfl rfl (by
         have:=mapWf_modify k3 (i:=n.toNat) (f:=fun e=>{ e with val:=cv }) (fun _=>rfl)
         simpa using this) (by
         intro hmono i p e hi he
         rw[List.getElem?_set]at hi
         rw[Array.getElem?_modify]at he
         by_cases hij:n.toNat=i
         · rw[if_pos hij,if_pos (by omega)]at hi
           rw[if_pos hij]at he
           obtain⟨e0,he0,rfl⟩:=Option.map_eq_some_iff.1 he
           cases hi
           have hi':es[i]?=some (es.getD n.toNat (.nil,.nil)):=by
            rw[hij,List.getD_eq_getElem?_getD,List.getElem?_eq_getElem (by omega)];rfl
           exact⟨hmono _ _ (k4 i _ e0 hi' he0).1,hmono _ _ hv⟩
         · rw[if_neg hij]at hi
           rw[if_neg hij]at he
           exact⟨hmono _ _ (k4 i p e hi he).1,hmono _ _ (k4 i p e hi he).2⟩)
        exact hw.setEnv d (v:=.undef) (c:=undef) (.undef _)
    · exact StSim.fail
  · exact StSim.fail
end
end Go.Skm
namespace Go.Skm
section
variable {P:Program} {T:Tab} {w0:Base} {Pr M0 M:Nat→Prop} {β:Nat→Option (Nat × Nat)} {st:St} {a:Act} {w:World} {o:Oper}
theorem Rel.evalOs (r:Rel w0 Pr M0 M β st a w):∀ (l:List Operand),ListR w M β (look st.heap) (Skm.evalOs st.env l) (l.map a.eval)
 | []=>⟨rfl,fun i x c h=>by simp[Skm.evalOs]at h⟩
 | x::l=>by
  obtain⟨h1,h2⟩:=r.evalOs l
  refine⟨by simp[Skm.evalOs,h1],fun i y c hy hc=>?_⟩
  cases i with
  | zero=>simp[Skm.evalOs]at hy hc;subst hy hc;exact r.evalO x
  | succ i=>simp only[Skm.evalOs,List.map_cons,List.getElem?_cons_succ]at hy hc;exact h2 i y c hy hc
theorem Rel.evalOs' (r:Rel w0 Pr M0 M β st a w) (l:Array Operand):ListR w M β (look st.heap) (Skm.evalOs st.env l.toList) (l.map a.eval).toList:=by
 rw[Array.toList_map];exact r.evalOs l.toList
theorem Rel.partsEval (r:Rel w0 Pr M0 M β st a w):∀ (l:List (Nat × Operand)),PartsR w M β (look st.heap) (Skm.partsEval st.env l) (l.map fun (i,x)=>(i,a.eval x))
 | []=>⟨rfl,fun i x c h=>by simp[Skm.partsEval]at h⟩
 | (n,x)::l=>by
  obtain⟨h1,h2⟩:=r.partsEval l
  refine⟨by simp[Skm.partsEval,h1],fun i y c hy hc=>?_⟩
  cases i with
  | zero=>simp[Skm.partsEval]at hy hc;subst hy hc;exact⟨rfl,r.evalO x⟩
  | succ i=>simp only[Skm.partsEval,List.map_cons,List.getElem?_cons_succ]at hy hc;exact h2 i y c hy hc
theorem Rel.partsEval' (r:Rel w0 Pr M0 M β st a w) (l:Array (Nat × Operand)):PartsR w M β (look st.heap) (Skm.partsEval st.env l.toList) (l.map fun (i,x)=>(i,a.eval x)).toList:=by
 rw[Array.toList_map];exact r.partsEval l.toList
theorem Rel.optEval (r:Rel w0 Pr M0 M β st a w) (x:Option Operand):OptR w M β (look st.heap) (Skm.optEval st.env x) (x.map a.eval):=by
 cases x with
 | none=>exact True.intro
 | some x=>exact r.evalO x
theorem OpSim.fail:OpSim P w0 Pr M0 β st a w o .fail:=⟨fun _ _ _ _ hk=>by simp[DT.run]at hk⟩
theorem OpSim.val (r:Rel w0 Pr M0 M β st a w) {D:DT} {sem:Sem Value} (h:ValSim P w M β (look st.heap) D sem) (e:execOp a.eval o=(do pure (.value (← sem)))):OpSim P w0 Pr M0 β st a w o D :=
 StSim.op (by rw[e];exact StSim.of_val r h)
theorem StSim.run_congr {d:Option Nat} {D:DT} {s1 s2:Sem Next} (h:StSim P w0 Pr M0 β st a w d D s1) (e:s2.run P w=s1.run P w):StSim P w0 Pr M0 β st a w d D s2 :=
 ⟨fun α k q hk=>by rw[e];exact h.sim α k q hk⟩
theorem OpSim.of {D:DT} {sem:Sem Next} (h:StSim P w0 Pr M0 β st a w o.dst D sem) (e:execOp a.eval o=sem):OpSim P w0 Pr M0 β st a w o D :=
 StSim.op (by rw[e];exact h)
theorem sim_nil (r : Rel w0 Pr M0 M β st a w) {d : Nat} {sa : Bool} {ks : List Kd} :
    StSim P w0 Pr M0 β st a w (some d) (.ret { val:=.slice d ks.length 0 0,chg:=[(d,.arr sa ks [])],new:=[d] }) (pure (.value (.slice none 0 0))):=by
  refine StSim.ret (nv:=.value (.slice none 0 0)) (c:=.slice none 0 0) (w':=w) (M':=M) (β':=fun x=>if x=d then none else β x) (by simp) (.inl rfl) (fun _=>?_) (fun hf=>new_arg (ss:=[]) hf)
  have r1:Rel w0 Pr M0 M β (st.strike (present st.heap [d]++[])) a w:=r.strike _ (fun b h=>h) fun b h=>.inl h
  have h0:look (st.strike (present st.heap [d]++[])).heap d=none:=struck_none (by simp)
  rw[strike_env_ok]
  generalize st.strike (present st.heap [d]++[])=st1 at r1 h0
  have r2:=r1.lay (s:=d) (blk:=.arr sa ks []) h0 (p:=none) (fun b o h=>by cases h) (.arrE _ _)
  refine r2.setEnv (some d) ?_
  exact .sliceE d 0 sa ks [] none (by simp[look_put]) (by simp)
theorem sim_opcall (ok : TabOk P T) {C : CallF} (hC : CallOk P T w0.gl C) (r : Rel w0 Pr M0 M β st a w) {h' : Nat → Option Blk} (hsub : ∀ s b,h' s = some b → look st.heap s = some b) {f : Nat} {args : List AV} {cargs : Array Value}
    (hargs:ListR w M β (look st.heap) args cargs.toList) (he:(execOp a.eval o).run P w=(callFunc f cargs).run P w):OpSim P w0 Pr M0 β st a w o (stepCall T C h' o.dst f args):=by
  unfold stepCall
  cases hp:(cfgOf T f).prim.is with
  | true=>exact sim_prim (C:=C) ok hC r hsub hp hargs he
  | false =>
  simp only[cond_false]
  cases hvc:(cfgOf T f).vcall with
  | true=>exact sim_var ok hC r hsub hvc hargs he
  | false =>
  simp only[cond_false]
  cases hd:o.dst with
  | none=>simp only[stepCall0];exact OpSim.fail
  | some d =>
   cases hf:tlook T.funcs f with
   | none=>simp only[stepCall0,hf];exact OpSim.fail
   | some fi =>
    rw[← hd]
    cases hm:fi.cfg.byRef with
    | false=>exact sim_callV ok hC r hsub hd hf hm hargs he
    | true =>
     simp only[stepCall0,hd,hf,hm]
     exact OpSim.fail
theorem exec_builtin {ρ : Operand → Value} {dst : Option Tmp} {b : Builtin} {args : Array Operand} {ts : Array TypeId} {type : TypeId} {pos : String} {after : Array Edge} {guard : Option (Nat × Bool)} :
    execOp ρ ⟨dst,.call ⟨.builtin b,args,ts⟩,type,pos,after,guard⟩=builtin b ts type (args.map fun | .const _=>true | _=>false) (args.map ρ):=rfl
theorem exec_value {ρ : Operand → Value} {dst : Option Tmp} {fo : Operand} {args : Array Operand} {ts : Array TypeId} {type : TypeId} {pos : String} {after : Array Edge} {guard : Option (Nat × Bool)} {f : Nat} {vs : Array Value} (h : ρ fo = .func (.func f) #[] vs) :
    (execOp ρ ⟨dst,.call ⟨.value fo,args,ts⟩,type,pos,after,guard⟩)=callFunc f (args.map ρ++vs):=by
  simp only[execOp,resolve,h,Deferred.ofValue]
  simp[invoke]
theorem ListR.append {w:World} {M:Nat→Prop} {β:Nat→Option (Nat × Nat)} {h:Nat→Option Blk}:∀ {xs ys:List AV} {cs ds:List Value},ListR w M β h xs cs→ListR w M β h ys ds→ListR w M β h (xs++ys) (cs++ds)
 | [],ys,[],ds,_,h2=>h2
 | x::xs,ys,c::cs,ds,h1,h2=>by
  obtain⟨g1,g2⟩:=h1.cons
  obtain⟨k1,k2⟩:=g2.append h2
  refine⟨by simp[k1],fun i y e hy he=>?_⟩
  cases i with
  | zero=>simp at hy he;subst hy he;exact g1
  | succ i=>simp at hy he;exact k2 i y e hy he
 | [],_,_::_,_,h1,_=>by have:=h1.1;simp at this
 | _::_,_,[],_,h1,_=>by have:=h1.1;simp at this
theorem sim_op (ok : TabOk P T) {C : CallF} (hC : CallOk P T w0.gl C) (r : Rel w0 Pr M0 M β st a w) {h' : Nat → Option Blk} (hsub : ∀ s b,h' s = some b → look st.heap s = some b) :
    OpSim P w0 Pr M0 β st a w o (stepOp T C st.env h' o):=by
  have hh:=r.heap
  obtain⟨dst,op,type,pos,after,guard⟩:=o
  cases op with
  | move x=>exact OpSim.of (sem:=pure (.value (a.eval x))) (StSim.ret (nv:=.value (a.eval x)) (by simp) (.inl rfl) (fun _=>r.setEnv dst (r.evalO x)) (fun _ _ _=>rfl) (fun _=>chg_nil)) rfl
  | assign x =>
   have plain:StSim P w0 Pr M0 β st a w dst (.ret { val:=Skm.evalO st.env x }) (pure (.value (a.eval x))) :=
    StSim.ret (nv:=.value (a.eval x)) (by simp) (.inl rfl) (fun _=>r.setEnv dst (r.evalO x)) (fun _ _ _=>rfl) (fun _=>chg_nil)
   simp only[stepOp]
   split
   · exact OpSim.of (sim_nil r) rfl
   · exact OpSim.of plain rfl
  | pick c x y=>
   refine OpSim.of ((StSim.of_val r (sim_pick (r.evalO c) (r.evalO x) (r.evalO y))).run_congr (s2:=do pure (.value (if ← asBool (a.eval c) then a.eval x else a.eval y))) ?_) rfl
   simp only[Sem.run_bind]
   cases (asBool (a.eval c)).run P w<;>simp
  | alloc t=>exact OpSim.of (sim_alloc ok r) rfl
  | box t v=>exact OpSim.of (sim_box r (r.evalO v)) rfl
  | build t ps=>exact OpSim.val r (sim_build ok (r.partsEval' ps)) rfl
  | buildSlice t len ps =>
   simp only[stepOp]
   cases hf:inFulls T dst with
   | true=>exact OpSim.of (sim_buildFull ok r hsub (r.partsEval' ps)) rfl
   | false=>exact OpSim.of (sim_buildSlice ok r hsub (r.partsEval' ps)) rfl
  | load t x=>exact OpSim.val r (sim_load ok hsub hh (r.evalO x)) rfl
  | store t x v=>exact OpSim.of (sim_store ok r hsub (r.evalO x) (r.evalO v)) rfl
  | binOp op t x y _=>exact OpSim.val r (sim_bin ok x y (r.evalO x) (r.evalO y)) rfl
  | unOp op _ x=>exact OpSim.val r (sim_un (r.evalO x)) rfl
  | convert s t x=>exact OpSim.of (sim_convert ok r hsub (r.evalO x)) rfl
  | makeFunc fn first caps=>exact OpSim.val r (sim_makeFunc (r.evalOs' first) (r.evalOs' caps)) rfl
  | makeSlice t l c=>exact OpSim.of (sim_makeSlice ok r (r.evalO l) (r.evalO c)) rfl
  | makeMap t x=>exact OpSim.of (sim_makeMap ok r (r.optEval x)) rfl
  | lookup t m k b=>exact OpSim.val r (sim_lookup ok hsub hh (r.evalO m) (r.evalO k)) rfl
  | mapEntry t m k=>exact OpSim.of (sim_mapEntry ok r hsub (r.evalO m) (r.evalO k)) rfl
  | entryStore t m k v=>exact OpSim.of (sim_entryStore (t:=t) r hsub (r.evalO m) (r.evalO k) (r.evalO v)) rfl
  | insert t m k v=>exact OpSim.of (sim_mapUpdate ok r hsub (r.evalO m) (r.evalO k) (r.evalO v)) rfl
  | mapUpdate t m k v=>exact OpSim.of (sim_mapUpdate ok r hsub (r.evalO m) (r.evalO k) (r.evalO v)) rfl
  | slice t x lo hi mx =>
   simp only[stepOp]
   split
   · exact OpSim.fail
   · split
     · exact OpSim.fail
     · rename_i hmh
       refine OpSim.val r (sim_slice ok (r.evalO x) (r.optEval lo) (r.optEval hi) (r.optEval mx) ?_) rfl
       intro h
       cases mx with
       | none=>simp[Skm.optEval]at h
       | some m =>
        cases hi with
        | none=>exact absurd rfl (hmh m rfl)
        | some _=>rfl
  | fieldAddr t x f=>exact OpSim.val r (sim_fieldAddr ok (r.evalO x)) rfl
  | field t x f=>exact OpSim.val r (sim_field ok (r.evalO x)) rfl
  | indexAddr t x i=>exact OpSim.val r (sim_indexAddr ok (r.evalO x) (r.evalO i)) rfl
  | index t x i=>exact OpSim.val r (sim_index ok (r.evalO x) (r.evalO i)) rfl
  | extract x i=>exact OpSim.val r (sim_extract (r.evalO x)) rfl
  | call c =>
   obtain⟨callee,args,argTypes⟩:=c
   simp only[stepOp]
   split
   · -- len
     split
     · rename_i x t ts h1 h2
       have e1:args=#[x]:=by rw[← Array.toList_inj];exact h1
       have e2:argTypes[0]?=some t:=by rw[← Array.getElem?_toList,h2];rfl
       subst e1
       exact OpSim.val r (sim_len ok hsub hh e2 (ty:=type) (r.evalO x)) (by rw[exec_builtin];simp[builtin])
     · exact OpSim.fail
   · -- append
     split
     · rename_i x y t t2 h1 h2
       have e1:args=#[x,y]:=by rw[← Array.toList_inj];exact h1
       have e2:argTypes=#[t,t2]:=by rw[← Array.toList_inj];exact h2
       subst e1 e2
       exact OpSim.of (sim_append ok r hsub (ty:=type) (ts:=#[t,t2]) rfl rfl (r.evalO x) (r.evalO y)) (by rw[exec_builtin];simp[builtin])
     · exact OpSim.fail
   · rename_i fo
     have hfo:=r.evalO fo
     split
     · rename_i f caps hv
       rw[hv]at hfo
       have:∃ vs:Array Value,a.eval fo=.func (.func f) #[] vs∧ListR w M β (look st.heap) (caps.map .p) vs.toList:=by
        generalize a.eval fo=c at hfo
        cases hfo with
        | p _ _ hv =>
         cases hv with
         | fn _ _ vs hn hc =>
          refine⟨vs,rfl,by simp[hn],fun i x c hx hy=>?_⟩
          simp only[List.getElem?_map,Option.map_eq_some_iff]at hx
          obtain⟨y,hx,rfl⟩:=hx
          have:=hc i y hx
          rw[Array.getElem?_toList]at hy
          rw[Array.getD_eq_getD_getElem?,hy]at this
          exact .p _ _ this
       obtain⟨vs,h1,h2⟩:=this
       refine sim_opcall (o:=⟨dst,.call ⟨.value fo,args,argTypes⟩,type,pos,after,guard⟩) ok hC r hsub (cargs:=args.map a.eval++vs) ?_ (by rw[exec_value h1])
       rw[Array.toList_append]
       exact(r.evalOs' args).append h2
     · rename_i f caps hv
       rw[hv]at hfo
       have:∃ vs:Array Value,a.eval fo=.func (.func f) #[] vs∧ListR w M β (look st.heap) caps vs.toList:=by
        generalize a.eval fo=c at hfo
        cases hfo with
        | fn _ _ vs hn hc =>
         refine⟨vs,rfl,by simp[hn],fun i x c hx hy=>?_⟩
         have:=hc i x hx
         rw[Array.getElem?_toList]at hy
         rw[Array.getD_eq_getD_getElem?,hy]at this
         exact this
       obtain⟨vs,h1,h2⟩:=this
       refine sim_opcall (o:=⟨dst,.call ⟨.value fo,args,argTypes⟩,type,pos,after,guard⟩) ok hC r hsub (cargs:=args.map a.eval++vs) ?_ (by rw[exec_value h1])
       rw[Array.toList_append]
       exact(r.evalOs' args).append h2
     · exact OpSim.fail
   · exact OpSim.fail
  | _=>exact OpSim.fail
end
end Go.Skm
namespace Go.Skm
section
variable {α:Type}
theorem forceNat_eq (m:Nat) (k:Nat→Option α):forceNat m k=k m:=by cases m<;>rfl
theorem forceInt_eq (n:Int) (k:Int→Option α):forceInt n k=k n:=by cases n<;>simp[forceInt,forceNat_eq]
mutual
theorem forcePV_eq (b:Bool):∀ (v:PV) (k:PV→Option α),forcePV b v k=k v
 | .bool c,k=>by cases b<;>cases c<;>simp[forcePV]
 | .int j n,k=>by cases b<;>simp[forcePV,forceInt_eq]
 | .str s,k=>by simp[forcePV]
 | .agg cs,k=>by simp[forcePV,forcePVs_eq b cs]
 | .list a ks xs,k=>by cases b<;>simp[forcePV,forcePVs_eq _ xs]
 | .full a ks xs,k=>by cases b<;>simp[forcePV,forcePVs_eq _ xs]
 | .nil,k=>by simp[forcePV]
 | .fn f cs,k=>by cases b<;>simp[forcePV,forcePVs_eq _ cs]
 | .ref cs,k=>by simp[forcePV,forcePVs_eq b cs]
 | .nilp,k=>by simp[forcePV]
 | .nilfn,k=>by simp[forcePV]
 | .ifc,k=>by simp[forcePV]
 | .nilif,k=>by simp[forcePV]
 | .mapv ks vs,k=>by simp[forcePV]
 | .nilm,k=>by simp[forcePV]
theorem forcePVs_eq (b:Bool):∀ (v:List PV) (k:List PV→Option α),forcePVs b v k=k v
 | [],k=>by simp[forcePVs]
 | v::r,k=>by simp[forcePVs,forcePV_eq b v,forcePVs_eq b r]
end
mutual
theorem forceAV_eq (b:Bool):∀ (v:AV) (k:AV→Option α),forceAV b v k=k v
 | .undef,k=>by simp[forceAV]
 | .p v,k=>by cases b<;>simp[forceAV,forcePV_eq]
 | .slice s z o l,k=>by cases b<;>simp[forceAV,forceNat_eq]
 | .bslice s o l,k=>by cases b<;>simp[forceAV,forceNat_eq]
 | .ptr s i o,k=>by cases b<;>simp[forceAV,forceNat_eq]
 | .lptr a ks x o,k=>by cases b<;>simp[forceAV,forceNat_eq,forcePV_eq]
 | .fn f cs,k=>by simp[forceAV,forceAVs_eq b cs]
 | .agg cs,k=>by simp[forceAV,forceAVs_eq b cs]
 | .tup cs,k=>by simp[forceAV,forceAVs_eq b cs]
 | .fresh a ks xs,k=>by cases b<;>simp[forceAV,forcePVs_eq]
 | .yld,k=>by simp[forceAV]
 | .mref s,k=>by simp[forceAV]
theorem forceAVs_eq (b:Bool):∀ (v:List AV) (k:List AV→Option α),forceAVs b v k=k v
 | [],k=>by simp[forceAVs]
 | v::r,k=>by simp[forceAVs,forceAV_eq b v,forceAVs_eq b r]
end
theorem spine_eq:∀ (v:List AV) (k:List AV→Option α),spine v k=k v
 | [],k=>rfl
 | v::r,k=>by simp[spine,spine_eq r]
theorem forceBlk_eq (b:Bool):∀ (v:Blk) (k:Blk→Option α),forceBlk b v k=k v
 | .box cs,k=>by simp[forceBlk,forceAVs_eq]
 | .arr a ks xs,k=>by cases b<;>simp[forceBlk,forcePVs_eq]
 | .log on xs,k=>by cases b<;>simp[forceBlk,forcePVs_eq]
 | .tb t c0 c1,k=>by simp[forceBlk,forceAV_eq]
 | .mp t es,k=>by simp[forceBlk]
 | .br e xs,k=>by cases b<;>simp[forceBlk,forcePVs_eq]
theorem forceBlks_eq (b:Bool):∀ (v:List Blk) (k:List Blk→Option α),forceBlks b v k=k v
 | [],k=>rfl
 | v::r,k=>by simp[forceBlks,forceBlk_eq,forceBlks_eq b r]
theorem forceChg_eq (b:Bool):∀ (v:List (Nat × Blk)) (k:List (Nat × Blk)→Option α),forceChg b v k=k v
 | [],k=>rfl
 | (s,x)::r,k=>by simp[forceChg,forceBlk_eq,forceChg_eq b r]
theorem spineH_eq:∀ (v:Heap) (k:Heap→Option α),spineH v k=k v
 | [],k=>rfl
 | (s,x)::r,k=>by simp[spineH,spineH_eq r]
theorem forceSt_eq (st:St) (k:St→Option α):forceSt st k=k st:=by simp[forceSt,spine_eq,spineH_eq]
theorem forceEff_eq (b:Bool) (st:St) (d:Option Nat) (e:Eff) (k:St→Option α):forceEff b st d e k=k (st.apply d e):=by
 simp[forceEff,forceAV_eq,forceChg_eq,forceSt_eq]
theorem DT.run_bind:∀ (D:DT) (k:Eff→Option α),D.run k=(D.run some).bind k
 | .fail,k=>rfl
 | .ret e,k=>rfl
 | .ite c x y,k=>by cases c<;>simp[DT.run,DT.run_bind x k,DT.run_bind y k]
 | .call o f,k=>by
  cases o with
  | none=>rfl
  | some r=>simp only[DT.run];exact DT.run_bind (f r) k
end
section
variable (T:Tab) (C:CallF)
def act1 (all:List Oper) (o:Oper) (env:List AV) (h:Nat→Option Blk):Option (Option Eff) :=
 match o.guard with
 | none=>((stepOp T C env h o).run some).map some
 | some (g,want) =>
  match dstOf all g with
  | none=>none
  | some t =>
   match env.getD t .undef with
   | .p (.bool b)=>if b=want then((stepOp T C env h o).run some).map some else some none
   | .tup []=>some none
   | _=>none
def step1 (draw:Bool) (hd:List Nat) (all:List Oper) (o:Oper) (st:St):Option St :=
 match act1 T C all o st.env (hideH hd (look st.heap)) with
 | none=>none
 | some none=>some { st with env:=setEnv st.env o.dst (.tup []) }
 | some (some e)=>if(frzOk (e.new++e.frz)&&quietEff draw (opClass T all o) (opSites all o) st.heap e)=true then some (st.apply o.dst e) else none
theorem set_self {env:List AV} {t:Nat} {v:AV} (h:env.getD t .undef=v) (hv:v≠.undef):env.set t v=env:=by
 apply List.ext_getElem?
 intro i
 by_cases hi:i=t
 · subst hi
   by_cases hl:i<env.length
   · have : env[i]? = some v := by
       rw[List.getD_eq_getElem?_getD,List.getElem?_eq_getElem hl]at h
       simp at h;simp[hl,h]
     rw[this];simp[hl]
   · rw[List.getD_eq_getElem?_getD,List.getElem?_eq_none (by omega)]at h
     exact absurd h.symm hv
 · rw[List.getElem?_set_ne (Ne.symm hi)]
def guardOf (all:List Oper) (o:Oper) (env:List AV):Option Bool :=
 match o.guard with
 | none=>some true
 | some (g,want) =>
  match dstOf all g with
  | none=>none
  | some t =>
   match env.getD t .undef with
   | .p (.bool b)=>some (b==want)
   | .tup []=>some false
   | _=>none
theorem act1_guard (all : List Oper) (o : Oper) (env : List AV) (h : Nat → Option Blk) : act1 T C all o env h = (match guardOf all o env with
    | none=>none
    | some false=>some none
    | some true=>((stepOp T C env h o).run some).map some):=by
  unfold act1 guardOf
  cases o.guard with
  | none=>rfl
  | some gw =>
   obtain⟨g,want⟩:=gw
   simp only
   cases dstOf all g with
   | none=>rfl
   | some t =>
    simp only
    split
    · rename_i b hb
      cases b<;>cases want<;>rfl
    · rfl
    · rfl
theorem runOps_eq {α : Type} {draw : Bool} {hd : List (List Nat)} {all : List Oper} {o : Oper} {rest : List Oper} {j : Nat} {st : St} {k : St → Option α} :
    runOps T C draw hd all (o::rest) j st k=(match guardOf all o st.env with
     | none=>none
     | some false=>runOps T C draw hd all rest (j+1) { st with env:=setEnv st.env o.dst (.tup []) } k
     | some true=>match yieldAt draw st o with
      | some (xs,vs)=>fork (runOps T C draw hd all rest (j+1) (afterYield st o.dst xs vs false) k) (runOps T C draw hd all rest (j+1) (afterYield st o.dst xs vs true) k)
      | none=>((stepOp T C st.env (hideH (hd.getD j []) (look st.heap)) o).run some).bind fun e =>
       if(frzOk (e.new++e.frz)&&quietEff draw (opClass T all o) (opSites all o) st.heap e)=true then runOps T C draw hd all rest (j+1) (st.apply o.dst e) k else none):=by
  have go : ∀ st : St, (match yieldAt draw st o with
        | some (xs,vs)=>fork (forceSt (afterYield st o.dst xs vs false) fun st=>runOps T C draw hd all rest (j+1) st k) (forceSt (afterYield st o.dst xs vs true) fun st=>runOps T C draw hd all rest (j+1) st k)
        | none=>(stepOp T C st.env (hideH (hd.getD j []) (look st.heap)) o).run fun e =>
        bif frzOk (e.new++e.frz)&&quietEff draw (opClass T all o) (opSites all o) st.heap e then forceEff T.strict st o.dst e fun st=>runOps T C draw hd all rest (j+1) st k else none) =
      (match yieldAt draw st o with
        | some (xs,vs)=>fork (runOps T C draw hd all rest (j+1) (afterYield st o.dst xs vs false) k) (runOps T C draw hd all rest (j+1) (afterYield st o.dst xs vs true) k)
        | none=>((stepOp T C st.env (hideH (hd.getD j []) (look st.heap)) o).run some).bind fun e =>
         if(frzOk (e.new++e.frz)&&quietEff draw (opClass T all o) (opSites all o) st.heap e)=true then runOps T C draw hd all rest (j+1) (st.apply o.dst e) k else none):=by
    intro st
    cases yieldAt draw st o with
    | some p=>obtain⟨xs,vs⟩:=p;simp only[forceSt_eq]
    | none =>
     simp only
     rw[DT.run_bind]
     congr 1
     funext e
     simp only[forceEff_eq]
     cases frzOk (e.new++e.frz)&&quietEff draw (opClass T all o) (opSites all o) st.heap e<;>simp
  rw[runOps]
  unfold guardOf
  cases hg:o.guard with
  | none=>exact go st
  | some gw =>
   obtain⟨g,want⟩:=gw
   simp only
   cases hd':dstOf all g with
   | none=>rfl
   | some t =>
    simp only
    by_cases hx:∃ b,st.env.getD t .undef=.p (.bool b)
    · obtain⟨b,hb⟩:=hx
      have hs:=set_self hb (by simp)
      rw[hb]
      cases b
      · simp only[cond_false]
        rw[hs]
        cases want
        · simp only[cond_false];exact go st
        · simp only[cond_true,forceSt_eq];rfl
      · simp only[cond_true]
        rw[hs]
        cases want
        · simp only[cond_false,forceSt_eq];rfl
        · simp only[cond_true];exact go st
    · by_cases hh:st.env.getD t .undef=.tup []
      · rw[hh]
        simp only[forceSt_eq]
      · split
        · rename_i b hb;exact absurd ⟨b,hb⟩ hx
        · rename_i hb;exact absurd hb hh
        · have : (match st.env.getD t .undef with
            | .p (.bool b)=>some (b==want)
            | .tup []=>some false
            | _=>none:Option Bool)=none:=by
            split
            · rename_i b hb;exact absurd ⟨b,hb⟩ hx
            · rename_i hb;exact absurd hb hh
            · rfl
          rw[this]
theorem runOps_cons {α : Type} {draw : Bool} {hd : List (List Nat)} {all : List Oper} {o : Oper} {rest : List Oper} {j : Nat} {st : St} {k : St → Option α} (hy : yieldAt draw st o = none) :
    runOps T C draw hd all (o::rest) j st k=(step1 T C draw (hd.getD j []) all o st).bind fun st'=>runOps T C draw hd all rest (j+1) st' k:=by
  rw[runOps_eq,hy]
  unfold step1
  rw[act1_guard]
  cases guardOf all o st.env with
  | none=>rfl
  | some b =>
   cases b with
   | false=>rfl
   | true =>
    simp only
    cases (stepOp T C st.env (hideH (hd.getD j []) (look st.heap)) o).run some with
    | none=>rfl
    | some e =>
     simp only[Option.bind_some,Option.map_some]
     cases frzOk (e.new++e.frz)&&quietEff draw (opClass T all o) (opSites all o) st.heap e<;>simp
theorem runOps_yield {α : Type} {draw : Bool} {hd : List (List Nat)} {all : List Oper} {o : Oper} {rest : List Oper} {j : Nat} {st : St} {k : St → Option α} {xs vs : List PV} (hy : yieldAt draw st o = some (xs,vs)) :
    runOps T C draw hd all (o::rest) j st k=(match guardOf all o st.env with
     | none=>none
     | some false=>runOps T C draw hd all rest (j+1) { st with env:=setEnv st.env o.dst (.tup []) } k
     | some true=>fork (runOps T C draw hd all rest (j+1) (afterYield st o.dst xs vs false) k) (runOps T C draw hd all rest (j+1) (afterYield st o.dst xs vs true) k)):=by
  rw[runOps_eq,hy]
theorem fork_some {α:Type} {no yes:Option α} {x:α} (h:fork no yes=some x):∃ r,no=some r∧yes=some x:=by
 cases no with
 | none=>cases h
 | some r=>exact⟨r,rfl,h⟩
theorem fork_of {α:Type} {no yes:Option α} {x r:α} (h1:no=some r) (h3:yes=some x):fork no yes=some x:=by
 subst h1 h3;rfl
end
structure Cx where
 w0:Base
 Pr:Nat→Prop
 M0:Nat→Prop
 β0:Nat→Option (Nat × Nat)
 hp0:Heap
 Wr:Nat→Prop
 t0:Array Value
 rd:Option Nat
 L0:List (Nat × Obj)
 nm:Nat
 Ys:Nat→Prop:=fun _=>False
 yv:Value:=undef
def Owned (β:Nat→Option (Nat × Nat)) (hp:Heap) (b:Nat):Prop:=∃ s o,(look hp s).isSome=true∧β s=some (b,o)
def markOf (D:Nat):Deferred:={ target:=.collected D,args:=#[] }
def NoLog (hp:Heap):Prop:=∀ xs,look hp argSite≠some (.log true xs)
structure Fix (cx:Cx) (M:Nat→Prop) (β:Nat→Option (Nat × Nat)) (hp:Heap) (a:Act) (w:World) (L:List (Nat × Obj)) (ds:List Nat):Prop where
 lies:∀ p∈L,w.heap[p.1]?=some p.2∧¬ Owned β hp p.1∧¬ M p.1
 sub:∀ p∈cx.L0,p∈L
 marks:a.defers=ds.map markOf
 nodup:ds.Nodup
 mark:∀ D∈ds,(D,Obj.deferred (some []))∈L∧cx.nm≤D
 rd:∀ l,cx.rd=some l→∃ r,(l,Obj.loop r)∈L
 size:a.tmps.size=cx.t0.size
 tmps:∀ t,¬ cx.Wr t→a.tmps.getD t undef=cx.t0.getD t undef
 one:¬ NoLog cx.hp0→ds=[]
 yl:∀ t,cx.Ys t→a.tmps.getD t undef=cx.yv∨a.tmps.getD t undef=undef
 nml:cx.nm≤cx.w0.heap.size
def OpFit (cx:Cx) (o:Oper):Prop:=(∀ t,o.dst=some t→cx.Wr t)∧∀ t,o.dst=some t→cx.Ys t→∃ s,cx.Ys s∧(o.op=.move (.tmp s)∨o.op=.assign (.tmp s))
def Inv (cx:Cx) (st:St) (a:Act) (w:World):Prop :=
 ∃ M β L ds,Rel cx.w0 cx.Pr cx.M0 M β st a w∧(∀ s,argSite≤s→β s=cx.β0 s)∧ArgsLike cx.hp0 st.heap∧DrawnLe cx.w0.gl cx.w0.drawn w.drawn∧Fix cx M β st.heap a w L ds
section
variable {w0:Base} {Pr M0 M M':Nat→Prop} {β β':Nat→Option (Nat × Nat)} {st st':St} {a a':Act} {w w':World}
theorem Rel.rebase (r:Rel w0 Pr M0 M β st a w):Rel ⟨w,w0.n0,Nat.le_trans w0.le' r.size,w0.gl⟩ (Owned β st.heap) M M β st a w :=
 ⟨r.tsize,r.env,r.heap,fun s b o hs hb=>⟨(r.own s b o hs hb).1,(r.own s b o hs hb).2.1,.inr ⟨s,o,hs,hb⟩,(r.own s b o hs hb).2.2.2⟩,r.inj,r.msub,fun _ h=>.inl h,fun _ h=>h,fun _ _ _=>rfl,fun _ _ _ _ h=>h,Nat.le_refl _,rfl,rfl,rfl,r.glob⟩
theorem Rel.unbase (r:Rel w0 Pr M0 M β st a w) {le:w0.n0≤w.heap.size} (r':Rel ⟨w,w0.n0,le,w0.gl⟩ (Owned β st.heap) M M' β' st' a' w'):Rel w0 Pr M0 M' β' st' a' w':=by
 have hown:∀ b,Owned β st.heap b→w0.heap.size≤b∨Pr b:=fun b ⟨s,o,hs,hb⟩=>(r.own s b o hs hb).2.2.1
 have hk:∀ b,b<w.heap.size→¬ Owned β st.heap b→w'.heap[b]?=w.heap[b]?:=r'.keep
 have hsz:w.heap.size≤w'.heap.size:=r'.size
 refine⟨r'.tsize,r'.env,r'.heap,fun s b o hs hb=>?_,r'.inj,r'.msub,fun b h=>?_,fun b h=>r'.mold b (r.mold b h),fun b h1 h2=>?_,fun b n h1 h2 h3=>?_,Nat.le_trans r.size hsz,r'.os.trans r.os,r'.tape.trans r.tape,r'.output.trans r.output,r'.glob⟩
 · obtain⟨g1,g2,g3,g4⟩:=r'.own s b o hs hb
   refine⟨g1,g2,?_,g4⟩
   rcases g3 with h | h
   · have h:w.heap.size≤b:=h
     have:=r.size;left;omega
   · exact hown b h
 · rcases r'.mnew b h with h | ⟨h,h'⟩
   · exact r.mnew b h
   · refine .inr ⟨h,?_⟩
     rcases h' with h' | h'
     · have h':w.heap.size≤b:=h'
       have:=r.size;left;omega
     · exact hown b h'
 · have hb:b<w.heap.size:=by have:=r.size;omega
   rw[hk b hb fun h=>?_,r.keep b h1 h2]
   rcases hown b h with h | h
   · omega
   · exact h2 h
 · have hb:b<w.heap.size:=by have:=r.size;omega
   have hr:=r.room b n h1 h2 h3
   by_cases ho:Owned β st.heap b
   · exact r'.room b n h1 ho hr
   · exact hr.of_block (hk b hb ho)
end
theorem put_defers (a:Act) (d:Option Nat) (c:Value):(a.put d c).defers=a.defers:=by cases d<;>rfl
theorem put_size (a:Act) (d:Option Nat) (c:Value):(a.put d c).tmps.size=a.tmps.size:=by cases d<;>simp[Act.put]
theorem put_get {a:Act} {d:Option Nat} {c:Value} {t:Nat} (h:d≠some t):(a.put d c).tmps.getD t undef=a.tmps.getD t undef:=by
 cases d with
 | none=>rfl
 | some d =>
  have:d≠t:=fun e=>h (by rw[e])
  simp[Act.put,Array.getD_eq_getD_getElem?,Array.getElem?_setIfInBounds_ne this]
section
variable {P:Program} {T:Tab} {cx:Cx} {st st':St} {a:Act} {w:World} {o:Oper}
theorem Fix.put {M:Nat→Prop} {β:Nat→Option (Nat × Nat)} {hp:Heap} {L:List (Nat × Obj)} {ds:List Nat} (f:Fix cx M β hp a w L ds) {d:Option Nat} (hd:∀ t,d=some t→cx.Wr t) (c:Value) (hy:∀ t,d=some t→cx.Ys t→c=cx.yv∨c=undef):Fix cx M β hp (a.put d c) w L ds :=
 ⟨f.lies,f.sub,by rw[put_defers];exact f.marks,f.nodup,f.mark,f.rd,by rw[put_size];exact f.size,fun t ht=>by rw[put_get fun e=>ht (hd t e)];exact f.tmps t ht,f.one,fun t ht=>by
   by_cases e:d=some t
   · subst e
     by_cases hl:t<a.tmps.size
     · have:(a.put (some t) c).tmps.getD t undef=c:=by simp[Act.put,hl]
       rw[this];exact hy t rfl ht
     · right
       simp[Act.put,Nat.le_of_not_lt hl]
   · rw[put_get e];exact f.yl t ht,f.nml⟩
theorem Fix.move {M M':Nat→Prop} {β β':Nat→Option (Nat × Nat)} {hp hp':Heap} {w':World} {L:List (Nat × Obj)} {ds:List Nat} (f:Fix cx M β hp a w L ds) (h:∀ p∈L,w'.heap[p.1]?=w.heap[p.1]?∧¬ Owned β' hp' p.1∧¬ M' p.1):Fix cx M' β' hp' a w' L ds :=
 ⟨fun p hp=>⟨(h p hp).1.trans (f.lies p hp).1,(h p hp).2⟩,f.sub,f.marks,f.nodup,f.mark,f.rd,f.size,f.tmps,f.one,f.yl,f.nml⟩
theorem Fix.less {M:Nat→Prop} {β β':Nat→Option (Nat × Nat)} {hp hp':Heap} {w':World} {L:List (Nat × Obj)} {ds:List Nat} (f:Fix cx M β hp a w L ds) (h:∀ p∈L,w'.heap[p.1]?=w.heap[p.1]?) (ho:∀ b,Owned β' hp' b→Owned β hp b):Fix cx M β' hp' a w' L ds :=
 f.move fun p hp=>⟨h p hp,fun h'=>(f.lies p hp).2.1 (ho _ h'),(f.lies p hp).2.2⟩
theorem Fix.step {β β' : Nat → Option (Nat × Nat)} {w0 : Base} {Pr M0 M M' : Nat → Prop} {w' : World} {a' : Act} {L : List (Nat × Obj)} {ds : List Nat} (f : Fix cx M β st.heap a w L ds) (_r : Rel w0 Pr M0 M β st a w) {le : w0.n0 ≤ w.heap.size}
    (r':Rel ⟨w,w0.n0,le,w0.gl⟩ (Owned β st.heap) M M' β' st' a' w'):Fix cx M' β' st'.heap a w' L ds:=by
  refine f.move fun p hp=>?_
  obtain⟨h1,h2,h3⟩:=f.lies p hp
  have hlt:p.1<w.heap.size:=(Array.getElem?_eq_some_iff.1 h1).1
  refine⟨r'.keep p.1 hlt h2,fun ⟨s,o,hs,hb⟩=>?_,fun hm=>?_⟩
  · rcases(r'.own s p.1 o hs hb).2.2.1 with h | h
    · have h:w.heap.size≤p.1:=h
      omega
    · exact h2 h
  · rcases r'.mnew p.1 hm with h | ⟨_,h | h⟩
    · exact h3 h
    · have h:w.heap.size≤p.1:=h
      omega
    · exact h2 h
theorem hide_sub {U:List Nat} {h:Nat→Option Blk} {s:Nat} {b:Blk} (hh:hideH U h s=some b):h s=some b:=by
 unfold hideH at hh
 split at hh
 · exact hh
 · simp only at hh
   cases hm:memN s U with
   | true=>rw[hm]at hh;cases hh
   | false=>rw[hm]at hh;exact hh
theorem yielded_of {all:List Oper} {ops:Array Oper} (he:ops.toList=all) {g t:Nat} (hd:dstOf all g=some t) (i:Inv cx st a w) {b:Bool} (hb:st.env.getD t .undef=.p (.bool b)):yielded ops a.tmps g=some b:=by
 obtain⟨M,β,L,ds,r,_⟩:=i
 subst he
 have h1:=r.slot t
 rw[hb]at h1
 have h2:=h1.p_bool
 unfold yielded
 unfold dstOf at hd
 rw[Array.getElem?_toList]at hd
 rw[hd]
 have hlt:t<a.tmps.size:=by
  have:t<st.env.length:=by
   by_cases h:t<st.env.length
   · exact h
   · rw[List.getD_eq_getElem?_getD,List.getElem?_eq_none (by omega)]at hb;cases hb
  have:=r.tsize;omega
 have:a.tmps[t]?=some (.bool b):=by
  rw[Array.getD_eq_getD_getElem?,Array.getElem?_eq_getElem hlt]at h2
  rw[Array.getElem?_eq_getElem hlt];simpa using h2
 simp[this]
theorem yielded_hole {all:List Oper} {ops:Array Oper} (he:ops.toList=all) {g t:Nat} (hd:dstOf all g=some t) (i:Inv cx st a w) (hb:st.env.getD t .undef=.tup []):yielded ops a.tmps g=none:=by
 obtain⟨M,β,L,ds,r,_⟩:=i
 subst he
 have h1:=r.slot t
 rw[hb]at h1
 unfold yielded
 unfold dstOf at hd
 rw[Array.getElem?_toList]at hd
 rw[hd]
 simp only[Option.bind_some]
 cases hx:a.tmps[t]? with
 | none=>rfl
 | some c =>
  rw[Array.getD_eq_getD_getElem?,hx]at h1
  simp only[Option.getD_some]at h1
  cases h1 with
  | tup _ vs hn _=>rfl
theorem step_nodefer {C:CallF} {env:List AV} {h:Nat→Option Blk} {e:Eff} (h1:(stepOp T C env h o).run some=some e):∀ c,o.op≠.defer c:=by
 intro c hc
 obtain⟨dst,op,type,pos,after,guard⟩:=o
 subst hc
 simp[stepOp,DT.run]at h1
theorem wpIn_hand {s:Nat} (hop:o.op=.move (.tmp s)∨o.op=.assign (.tmp s)) {rd:Option Nat} {n:Nat} {K:Act→World→Prop} {Q:Exit→Act→World→Prop}:o.wpIn (FW rd) n P a w K Q↔K (a.put o.dst (a.tmps.getD s undef)) w:=by
 have hnd:∀ c,o.op≠.defer c:=fun c hc=>by rcases hop with h | h<;>rw[h]at hc<;>cases hc
 have he:(execOp a.eval o).run P w=.ok (.value (a.tmps.getD s undef)) w:=by
  obtain⟨dst,op,type,pos,after,guard⟩:=o
  rcases hop with h | h<;>(simp only at h;subst h;simp[execOp,Act.eval])
 constructor
 · intro h
   have h2:=h.2
   rw[Oper.semAt_plain (FW rd) a.eval o hnd,he]at h2
   exact h2
 · intro h
   refine wpIn_exec hnd ?_
   rw[he];exact h
theorem sim1 (ok : TabOk P T) {C : CallF} (hC : CallOk P T cx.w0.gl C) {draw : Bool} {hd : List Nat} {all : List Oper} {ops : Array Oper} (he : ops.toList = all) (hw : OpFit cx o) (i : Inv cx st a w)
    (h:step1 T C draw hd all o st=some st') {rd:Option Nat} {n:Nat} {K:Act→World→Prop} (hK:∀ a' w',Inv cx st' a' w'→K a' w') {Q:Exit→Act→World→Prop} :
    if Region.wanted o (yielded ops a.tmps) then o.wpIn (FW rd) n P a w K Q else K (a.put o.dst undef) w:=by
  have key:∀ e,((stepOp T C st.env (hideH hd (look st.heap)) o).run some)=some e→frzOk (e.new++e.frz)=true→st'=st.apply o.dst e→o.wpIn (FW rd) n P a w K Q:=by
   intro e h1 h2 h3
   obtain⟨M,β,L,ds,r,i1,i2,i3,fx⟩:=i
   have hs:=(sim_op (w0:=⟨w,cx.w0.n0,Nat.le_trans cx.w0.le' r.size,cx.w0.gl⟩) (o:=o) ok hC r.rebase (h':=hideH hd (look st.heap)) fun s b=>hide_sub).sim (step_nodefer h1) Eff some e h1 rd n Q
   by_cases hys:∃ t,o.dst=some t∧cx.Ys t
   · obtain⟨t,ht,hyt⟩:=hys
     obtain⟨s,hys,hop⟩:=hw.2 t ht hyt
     rw[wpIn_hand hop]at hs ⊢
     obtain⟨_,e',M',β',h5,hdr,h6⟩:=hs
     cases h5
     obtain⟨g1,g2,g3⟩:=h6 h2
     exact hK _ w ⟨M',β',L,ds,by rw[h3];exact r.unbase g1,fun s hs=>(g2 s hs).trans (i1 s hs),by rw[h3];exact i2.trans g3,i3.trans hdr,by rw[h3];exact(fx.step r g1).put hw.1 _ fun _ _ _=>fx.yl s hys⟩
   · refine Oper.wpIn_mono (fun a' w' h4=>?_) hs
     obtain⟨⟨c,rfl⟩,e',M',β',h5,hdr,h6⟩:=h4
     cases h5
     obtain⟨g1,g2,g3⟩:=h6 h2
     exact hK _ w' ⟨M',β',L,ds,by rw[h3];exact r.unbase g1,fun s hs=>(g2 s hs).trans (i1 s hs),by rw[h3];exact i2.trans g3,i3.trans hdr,by rw[h3];exact(fx.step r g1).put hw.1 c fun t h1 h2=>absurd ⟨t,h1,h2⟩ hys⟩
  have skip:st'={ st with env:=setEnv st.env o.dst (.tup []) }→K (a.put o.dst undef) w:=by
   intro h3
   obtain⟨M,β,L,ds,r,i1,i2,i3,fx⟩:=i
   exact hK _ _ ⟨M,β,L,ds,by rw[h3];exact r.setEnv o.dst (.tup [] #[] rfl fun i c h=>by simp at h),i1,by rw[h3];exact i2,i3,by rw[h3];exact fx.put hw.1 _ fun _ _ _=>.inr rfl⟩
  have go : ∀ x : Option Eff, x = ((stepOp T C st.env (hideH hd (look st.heap)) o).run some) → (match x.map some with
        | none=>none
        | some none=>some { st with env:=setEnv st.env o.dst (.tup []) }
        | some (some e)=>if(frzOk (e.new++e.frz)&&quietEff draw (opClass T all o) (opSites all o) st.heap e)=true then some (st.apply o.dst e) else none:Option St)=some st'→o.wpIn (FW rd) n P a w K Q:=by
    intro x hx h
    cases x with
    | none=>simp at h
    | some e =>
     simp only[Option.map_some]at h
     split at h
     · rename_i hc
       simp only[Bool.and_eq_true]at hc
       exact key e hx.symm hc.1 (by simpa using h.symm)
     · cases h
  unfold step1 act1 at h
  cases hg:o.guard with
  | none =>
   rw[hg]at h
   simp only[Region.wanted,hg,if_true]
   exact go _ rfl h
  | some gw =>
   obtain⟨g,want⟩:=gw
   rw[hg]at h
   simp only at h
   cases hd':dstOf all g with
   | none=>rw[hd']at h;simp at h
   | some t =>
    rw[hd']at h
    simp only at h
    cases hv:st.env.getD t .undef with
    | p v =>
     cases v with
     | bool b =>
      rw[hv]at h
      simp only at h
      have hy:=yielded_of he hd' i hv
      simp only[Region.wanted,hg,hy]
      by_cases hb:b=want
      · subst hb
        rw[if_pos rfl]at h
        simp only[beq_self_eq_true,if_true]
        exact go _ rfl h
      · rw[if_neg hb]at h
        simp only at h
        have:(some b==some want)=false:=by simpa using hb
        rw[this]
        simp only[Bool.false_eq_true,if_false]
        exact skip (by simpa using h.symm)
     | _=>rw[hv]at h;simp at h
    | tup cs =>
     cases cs with
     | cons x r=>rw[hv]at h;simp at h
     | nil =>
      rw[hv]at h
      simp only at h
      have hy:=yielded_hole he hd' i hv
      simp only[Region.wanted,hg,hy]
      have:((none:Option Bool)==some want)=false:=rfl
      rw[this]
      simp only[Bool.false_eq_true,if_false]
      exact skip (by simpa using h.symm)
    | _=>rw[hv]at h;simp at h
theorem noLog_like {hp hp':Heap} (h:NoLog hp) (hl:ArgsLike hp hp'):NoLog hp':=by
 intro xs he
 obtain⟨blk,h1,h2⟩:=hl argSite (Nat.le_refl _) _ he
 cases blk with
 | box=>exact h2.elim
 | arr=>exact h2.elim
 | tb=>exact h2.elim
 | mp=>exact h2.elim
 | br=>exact h2.elim
 | log on ys=>exact h ys (by rw[h1];cases (show on=true from h2);rfl)
theorem NoLog.yield (h:NoLog st.heap) (draw:Bool):yieldAt draw st o=none:=by
 cases draw with
 | true=>rfl
 | false =>
  show yieldOf st o=none
  unfold yieldOf
  split
  · split
    · split
      · split
        · rename_i h1 _;exact absurd h1 (h _)
        · rfl
      · rfl
    · rfl
  · rfl
theorem Inv.noLog (i:Inv cx st a w) (h:NoLog cx.hp0):NoLog st.heap:=by
 obtain⟨M,β,L,ds,r,i1,i2,i3,fx⟩:=i
 exact noLog_like h i2
theorem sim_text (ok : TabOk P T) {C : CallF} (hC : CallOk P T cx.w0.gl C) {α : Type} {draw : Bool} {hd : List (List Nat)} {ops : Array Oper} (hn : NoLog cx.hp0) {rd : Option Nat} {n : Nat} {Q : Exit → Act → World → Prop} {k : St → Option α} {x : α} (hQ : ∀ st' a' w',k st' = some x → Inv cx st' a' w' → Q .normal a' w') :
    ∀ (l:List Oper) (j:Nat) (st:St) (a:Act) (w:World),(∀ o∈l,OpFit cx o)→runOps T C draw hd ops.toList l j st k=some x→Inv cx st a w→wpListIn (FW rd) n P ops Q l a w
  | [],j,st,a,w,_,h,i=>hQ st a w h i
  | o::rest,j,st,a,w,hw,h,i=>by
   rw[runOps_cons _ _ ((i.noLog hn).yield draw)]at h
   cases h1:step1 T C draw (hd.getD j []) ops.toList o st with
   | none=>rw[h1]at h;cases h
   | some st1 =>
    rw[h1]at h
    have:=sim1 ok hC rfl (hw o (by simp)) i h1 (rd:=rd) (n:=n) (K:=wpListIn (FW rd) n P ops Q rest) (fun a' w' i'=>sim_text ok hC hn hQ rest (j+1) st1 a' w' (fun o ho=>hw o (by simp[ho])) h i') (Q:=Q)
    unfold wpListIn
    split
    · rename_i hw;rw[if_pos hw]at this;exact this
    · rename_i hw;rw[if_neg hw]at this;exact⟨fun _ _=>trivial,this⟩
end
end Go.Skm
namespace Go.Skm
section
variable {T:Tab} {C:CallF}
theorem evalOs_congr {env env':List AV}:∀ {l:List Operand},(∀ x∈l,evalO env x=evalO env' x)→evalOs env l=evalOs env' l
 | [],_=>rfl
 | x::r,h=>by
  have:=evalOs_congr (l:=r) fun y hy=>h y (List.mem_cons_of_mem _ hy)
  simp[evalOs,h x (by simp),this]
theorem partsEval_congr {env env':List AV}:∀ {l:List (Nat × Operand)},(∀ x∈l,evalO env x.2=evalO env' x.2)→partsEval env l=partsEval env' l
 | [],_=>rfl
 | (i,x)::r,h=>by
  have:=partsEval_congr (l:=r) fun y hy=>h y (List.mem_cons_of_mem _ hy)
  simp[partsEval,h (i,x) (by simp),this]
theorem optEval_congr {env env':List AV} {x:Option Operand} (h:∀ y,x=some y→evalO env y=evalO env' y):optEval env x=optEval env' x:=by
 cases x with
 | none=>rfl
 | some y=>simp[optEval,h y rfl]
theorem stepOp_congr {env env':List AV} {h:Nat→Option Blk} {o:Oper} (he:∀ x∈o.op.operands,evalO env x=evalO env' x):stepOp T C env h o=stepOp T C env' h o:=by
 obtain⟨dst,op,type,pos,after,guard⟩:=o
 cases op with
 | call c =>
  obtain⟨callee,args,ts⟩:=c
  simp only[Op.operands,Call.operands]at he
  have ha:∀ x∈args.toList,evalO env x=evalO env' x:=fun x hx=>he x (by simp[Array.mem_toList_iff.1 hx])
  have hl:=evalOs_congr ha
  simp only[stepOp]
  split
  · split
    · rename_i x t r h1 h2
      rw[ha x (by rw[h1];simp)]
    · rfl
  · split
    · rename_i x y t t2 h1 h2
      rw[ha x (by rw[h1];simp),ha y (by rw[h1];simp)]
    · rfl
  · rename_i f
    rw[he f (by simp),hl]
  · rfl
 | build t ps =>
  simp only[Op.operands]at he
  simp only[stepOp]
  rw[partsEval_congr fun x hx=>he x.2 (by simp;exact⟨x.1,by simpa using hx⟩)]
 | buildSlice t n ps =>
  simp only[Op.operands]at he
  simp only[stepOp]
  rw[partsEval_congr fun x hx=>he x.2 (by simp;exact⟨x.1,by simpa using hx⟩)]
 | makeFunc fn first caps =>
  simp only[Op.operands]at he
  simp only[stepOp]
  rw[evalOs_congr fun x hx=>he x (by simp[Array.mem_toList_iff.1 hx]),evalOs_congr (l:=caps.toList) fun x hx=>he x (by simp[Array.mem_toList_iff.1 hx])]
 | slice t x lo hi mx =>
  simp only[Op.operands]at he
  simp only[stepOp]
  rw[he x (by simp),optEval_congr (x:=lo) fun y hy=>he y (by simp[hy]),optEval_congr (x:=hi) fun y hy=>he y (by simp[hy]),optEval_congr (x:=mx) fun y hy=>he y (by simp[hy])]
 | makeMap t x =>
  simp only[Op.operands]at he
  simp only[stepOp]
  rw[optEval_congr (x:=x) fun y hy=>he y (by simp[hy])]
 | assign x =>
  simp only[Op.operands]at he
  have hx:=he x (by simp)
  simp only[stepOp]
  split
  · rfl
  · rw[hx]
 | _ =>
  simp only[Op.operands]at he
  simp only[stepOp]
  try simp at he
  try simp only[he]
theorem tmpsOf_mem {t:Nat}:∀ {l:List Operand},Operand.tmp t∈l→t∈tmpsOf l
 | [],h=>by simp at h
 | x::r,h=>by
  rcases List.mem_cons.1 h with rfl | h
  · simp[tmpsOf]
  · have:=tmpsOf_mem h
    cases x<;>simp[tmpsOf,this]
def actE (T:Tab) (C:CallF) (all:List Oper) (o:Oper) (env:List AV) (h:Nat→Option Blk):Option Eff:=(act1 T C all o env h).map fun x=>x.getD { val:=.tup [] }
theorem act1_congr {all:List Oper} {o:Oper} {env env':List AV} {h:Nat→Option Blk} (he:∀ t∈looksOf all o,env.getD t .undef=env'.getD t .undef):act1 T C all o env h=act1 T C all o env' h:=by
 have hs:stepOp T C env h o=stepOp T C env' h o:=stepOp_congr fun x hx=>by
  cases x with
  | tmp t =>
   show env.getD t .undef=env'.getD t .undef
   exact he t (by unfold looksOf;exact List.mem_append_left _ (tmpsOf_mem (by simpa using hx)))
  | _=>rfl
 unfold act1
 rw[hs]
 cases hg:o.guard with
 | none=>rfl
 | some gw =>
  obtain⟨g,want⟩:=gw
  simp only
  cases hd:dstOf all g with
  | none=>rfl
  | some t =>
   simp only
   rw[he t (by unfold looksOf;unfold dstOf at hd;rw[hg];simp[hd])]
theorem actE_congr {all:List Oper} {o:Oper} {env env':List AV} {h:Nat→Option Blk} (he:∀ t∈looksOf all o,env.getD t .undef=env'.getD t .undef):actE T C all o env h=actE T C all o env' h:=by
 unfold actE;rw[act1_congr he]
theorem stepLen_pure {t:TypeId} {x:AV} {h h':Nat→Option Blk} (hm:isMapT T t=false):stepLen T h t x=stepLen T h' t x:=by
 unfold isMapT at hm
 unfold stepLen
 cases hu:und T t with
 | none=>rfl
 | some d =>
  rw[hu]at hm
  cases d<;>first | (simp at hm;done) | (cases x<;>first | rfl | (rename_i v;cases v<;>rfl))
theorem stepOp_pure {all:List Oper} {o:Oper} {env:List AV} {h h':Nat→Option Blk} (hc:opClass T all o=.pure):stepOp T C env h o=stepOp T C env h' o:=by
 obtain⟨dst,op,type,pos,after,guard⟩:=o
 cases op with
 | call c =>
  obtain⟨callee,args,ts⟩:=c
  cases callee with
  | builtin b =>
   by_cases hlen:b=.len
   · subst hlen
     simp only[opClass]at hc
     cases hm:ts.toList.any (isMapT T) with
     | true=>rw[hm]at hc;cases hc
     | false =>
      simp only[stepOp]
      split
      · rename_i x t r h1 h2
        refine stepLen_pure ?_
        have:=List.any_eq_false.1 hm t (by rw[h2];simp)
        simpa using this
      · rfl
   · cases b<;>first | rfl | (exact absurd rfl hlen) | (simp only[opClass]at hc;cases hb:fullApp args.toList all<;>rw[hb]at hc<;>simp at hc;done) | (simp[opClass]at hc)
  | value f =>
   cases f with
   | func f =>
    simp only[opClass]at hc
    cases hb:(cfgOf T f).byRef||(((cfgOf T f).shares&&!(cfgOf T f).quiet)||(cfgOf T f).prim.writes)<;>rw[hb]at hc<;>simp at hc
   | tmp t =>
    simp only[opClass]at hc
    cases ho:ownD T dst<;>rw[ho]at hc<;>simp at hc
   | _=>simp[opClass]at hc
  | invoke r n=>simp[opClass]at hc
 | slice t x lo hi mx =>
  simp only[opClass]at hc
  simp only[stepOp]
 | store t p v =>
  simp only[opClass]at hc
  split at hc<;>first | (rename_i t' _;cases hl:storeOwn T all t' v<;>rw[hl]at hc<;>simp at hc;done) | simp_all
  all_goals (try (rename_i t' _ _;cases hl:storeOwn T all t' v<;>simp_all))
 | assign x =>
  simp only[opClass]at hc
  rfl
 | move x=>rfl
 | _=>first | rfl | (simp[opClass]at hc)
theorem actE_pure {all:List Oper} {o:Oper} {env:List AV} {h h':Nat→Option Blk} (hc:opClass T all o=.pure):actE T C all o env h=actE T C all o env h':=by
 unfold actE act1;rw[stepOp_pure hc (h':=h')]
theorem stepOp_const {all:List Oper} {o:Oper} (hc:opClass T all o=.const):∃ v,(v=.undef∨∃ x,v=.p x)∧∀ env h,stepOp T C env h o=.ret { val:=v }:=by
 have val:∀ x,isConstO x=true→∃ v,(v=.undef∨∃ y,v=.p y)∧∀ env,evalO env x=v:=by
  intro x hx
  cases x with
  | tmp t=>simp[isConstO]at hx
  | global g=>simp[isConstO]at hx
  | func f=>exact⟨.p (.fn f []),.inr ⟨_,rfl⟩,fun _=>rfl⟩
  | const v =>
   cases hv:ofValue v with
   | none=>exact⟨.undef,.inl rfl,fun env=>by simp[evalO,hv]⟩
   | some y=>exact⟨.p y,.inr ⟨_,rfl⟩,fun env=>by simp[evalO,hv]⟩
 obtain⟨dst,op,type,pos,after,guard⟩:=o
 cases op with
 | move x =>
  simp only[opClass]at hc
  cases hx:isConstO x with
  | false =>
   rw[hx]at hc
   simp only[cond_false,moveCls]at hc
   split at hc
   · rename_i u d
     cases hm:memN (1000*d+u) T.calcs<;>rw[hm]at hc<;>cases hc
   · cases hc
  | true =>
   obtain⟨v,h1,h2⟩:=val x hx
   exact⟨v,h1,fun env h=>by simp[stepOp,h2]⟩
 | assign x =>
  simp only[opClass]at hc
  split at hc
  · cases hc
  · rename_i y hy hne
    cases hne
    cases hx:isConstO x with
    | false=>rw[hx]at hc;simp at hc
    | true =>
     obtain⟨v,h1,h2⟩:=val x hx
     refine⟨v,h1,fun env h=>?_⟩
     simp only[stepOp]
     split
     · exact(hy rfl).elim
     · rw[h2]
  all_goals (first | (rename_i h;cases h;done) | cases hc)
 | call c =>
  obtain⟨callee,args,ts⟩:=c
  cases callee with
  | builtin b =>
   by_cases hlen:b=.len
   · subst hlen
     simp only[opClass]at hc
     cases hm:ts.toList.any (isMapT T)<;>rw[hm]at hc<;>cases hc
   · cases b<;>first | (exact absurd rfl hlen) | (simp only[opClass]at hc;cases hb:fullApp args.toList all<;>rw[hb]at hc<;>simp at hc;done) | (simp[opClass]at hc)
  | value f =>
   cases f with
   | func f =>
    simp only[opClass]at hc
    cases hb:(cfgOf T f).byRef||(((cfgOf T f).shares&&!(cfgOf T f).quiet)||(cfgOf T f).prim.writes)<;>rw[hb]at hc<;>simp at hc
   | tmp t =>
    simp only[opClass]at hc
    cases ho:ownD T dst<;>rw[ho]at hc<;>simp at hc
   | _=>simp[opClass]at hc
  | invoke r n=>simp[opClass]at hc
 | slice t x lo hi mx =>
  simp only[opClass]at hc
  split at hc<;>cases hc
 | store t p v =>
  simp only[opClass]at hc
  split at hc<;>simp_all
  all_goals (rename_i t' _ _;cases hl:storeOwn T all t' v<;>simp_all)
 | _=>simp[opClass]at hc
theorem isPV_or {v:AV} (h:v.isPV=true):v=.tup []∨∃ x,v=.p x:=by
 cases v with
 | p x=>exact .inr ⟨x,rfl⟩
 | tup l=>cases l with
  | nil=>exact .inl rfl
  | cons a l=>simp[AV.isPV]at h
 | _=>simp[AV.isPV]at h
theorem stepBin0_p {op:BinOp} {t:TypeId} {x y:AV} {e:Eff} (h:(stepBin0 T op t x y).run some=some e):∃ p q,x=.p p∧y=.p q:=by
 cases x with
 | p p=>cases y with
  | p q=>exact⟨p,q,rfl,rfl⟩
  | _=>cases p<;>simp[stepBin0,DT.run]at h
 | _=>simp[stepBin0,DT.run]at h
theorem stepNil_p {op:BinOp} {t:TypeId} {kc:Bool} {x:AV} {q:PV} {e:Eff} (h:(stepNil T op t kc x (.p q)).run some=some e):∃ p,x=.p p:=by
 cases x with
 | p p=>exact⟨p,rfl⟩
 | _=>cases q<;>simp[stepNil,DT.run]at h
theorem stepBin_p {op:BinOp} {t:TypeId} {kc:Bool} {x y:AV} {e:Eff} (h:(stepBin T op t kc x y).run some=some e):∃ p q,x=.p p∧y=.p q:=by
 unfold stepBin at h
 split at h
 · obtain⟨p,rfl⟩:=stepNil_p h;exact⟨p,_,rfl,rfl⟩
 · obtain⟨p,rfl⟩:=stepNil_p h;exact⟨p,_,rfl,rfl⟩
 · obtain⟨p,rfl⟩:=stepNil_p h;exact⟨p,_,rfl,rfl⟩
 · exact stepBin0_p h
theorem stepUn_p {op:UnOp} {x:AV} {e:Eff} (h:(stepUn op x).run some=some e):∃ p,x=.p p:=by
 cases x with
 | p p=>exact⟨p,rfl⟩
 | _=>cases op<;>simp[stepUn,DT.run]at h
theorem stepOp_calc {all : List Oper} {o : Oper} (hc : opClass T all o = .plain) {env : List AV} {h : Nat → Option Blk} {e : Eff} (he : (stepOp T C env h o).run some = some e) (hp : e.val.isPV = true) (env' : List AV) (h' : Nat → Option Blk)
    (hk:∀ t∈tmpsOf o.op.operands.toList,∀ u:AV,u.isPV=true→env.getD t .undef=u→env'.getD t .undef=u):(stepOp T C env' h' o).run some=some e:=by
  have ev:∀ x∈o.op.operands,∀ u:AV,u.isPV=true→evalO env x=u→evalO env' x=u:=by
   intro x hx u hu hxu
   cases x with
   | tmp t=>exact hk t (tmpsOf_mem (by simpa using hx)) u hu hxu
   | _=>exact hxu
  obtain⟨dst,op,type,pos,after,guard⟩:=o
  cases op with
  | move x =>
   simp only[stepOp,DT.run,Option.some.injEq]at he ⊢
   subst he
   simp only at hp
   rw[ev x (by simp[Op.operands]) _ hp rfl]
  | binOp op t x y z =>
   simp only[stepOp]at he ⊢
   obtain⟨p,q,h1,h2⟩:=stepBin_p he
   rw[ev x (by simp[Op.operands]) (.p p) rfl h1,ev y (by simp[Op.operands]) (.p q) rfl h2]
   rw[h1,h2]at he
   exact he
  | unOp op t x =>
   simp only[stepOp]at he ⊢
   obtain⟨p,h1⟩:=stepUn_p he
   rw[ev x (by simp[Op.operands]) (.p p) rfl h1]
   rw[h1]at he
   exact he
  | call c =>
   obtain⟨callee,args,ts⟩:=c
   cases callee with
   | builtin b =>
    by_cases hlen:b=.len
    · subst hlen
      simp only[opClass]at hc
      cases hm:ts.toList.any (isMapT T)<;>rw[hm]at hc<;>cases hc
    · cases b<;>first | (exact absurd rfl hlen) | (simp only[opClass]at hc;cases hb:fullApp args.toList all<;>rw[hb]at hc<;>simp at hc;done) | (simp[opClass]at hc)
   | value f =>
    cases f with
    | func f =>
     simp only[opClass]at hc
     cases hb:(cfgOf T f).byRef||(((cfgOf T f).shares&&!(cfgOf T f).quiet)||(cfgOf T f).prim.writes)<;>rw[hb]at hc<;>simp at hc
    | tmp t =>
     simp only[opClass]at hc
     cases ho:ownD T dst<;>rw[ho]at hc<;>simp at hc
    | _=>simp[opClass]at hc
   | invoke r n=>simp[opClass]at hc
  | slice t x lo hi mx =>
   simp only[opClass]at hc
   split at hc<;>cases hc
  | store t p v =>
   simp only[opClass]at hc
   split at hc<;>simp_all
   all_goals (rename_i t' _ _;cases hl:storeOwn T all t' v<;>simp_all)
  | assign x =>
   simp only[opClass]at hc
   split at hc
   · cases hc
   · rename_i y hy hne
     cases hne
     cases hx:isConstO x<;>rw[hx]at hc<;>simp at hc
   all_goals (first | (rename_i h;cases h;done) | cases hc)
  | _=>simp[opClass]at hc
end
end Go.Skm
namespace Go.Skm
def Same (s t:St):Prop:=s.env=t.env∧look s.heap=look t.heap
theorem Same.refl (s:St):Same s s:=⟨rfl,rfl⟩
theorem Same.trans {s t u:St} (h1:Same s t) (h2:Same t u):Same s u:=⟨h1.1.trans h2.1,h1.2.trans h2.2⟩
theorem Same.symm {s t:St} (h:Same s t):Same t s:=⟨h.1.symm,h.2.symm⟩
mutual
theorem refers_nil:∀ (v:AV),AV.refers [] v=false
 | .undef | .p _ | .lptr _ _ _ _ | .fresh _ _ _ | .yld=>rfl
 | .slice _ _ _ _ | .bslice _ _ _ | .ptr _ _ _ | .mref _=>rfl
 | .fn _ cs | .agg cs | .tup cs=>by simp only[AV.refers];exact refersAny_nil cs
theorem refersAny_nil:∀ (l:List AV),AV.refersAny [] l=false
 | []=>rfl
 | v::r=>by simp[AV.refersAny,refers_nil v,refersAny_nil r]
end
theorem killEnv_nil:∀ (l:List AV),killEnv [] l=l
 | []=>rfl
 | v::r=>by simp[killEnv,AV.kill,refers_nil,killEnv_nil r]
def killH (ss:List Nat) (hp:Heap):Heap:=match ss with | []=>hp | ss=>killHeap ss hp
def strikeH (ss:List Nat) (hp:Heap):Heap:=match ss with | []=>hp | ss=>dropAll (killHeap ss hp) ss
theorem kill_eq (ss:List Nat) (st:St):st.kill ss=⟨killEnv ss st.env,killH ss st.heap⟩:=by
 cases ss with
 | nil=>simp[St.kill,killH,killEnv_nil]
 | cons s r=>rfl
theorem strike_eq (ss:List Nat) (st:St):st.strike ss=⟨killEnv ss st.env,strikeH ss st.heap⟩:=by
 cases ss with
 | nil=>simp[St.strike,strikeH,killEnv_nil]
 | cons s r=>rfl
theorem apply_eq (st : St) (d : Option Nat) (e : Eff) : st.apply d e =
    ⟨setEnv (killEnv e.cut (killEnv (present st.heap e.new++e.frz) st.env)) d e.val,putAll (killH e.cut (strikeH (present st.heap e.new++e.frz) st.heap)) e.chg⟩:=by
  simp only[St.apply,kill_eq,strike_eq]
theorem present_congr {h1 h2:Heap} (h:look h1=look h2):∀ (l:List Nat),present h1 l=present h2 l
 | []=>rfl
 | s::r=>by simp only[present,h,present_congr h r]
theorem killH_congr {h1 h2:Heap} (h:look h1=look h2) (ss:List Nat):look (killH ss h1)=look (killH ss h2):=by
 cases ss with
 | nil=>exact h
 | cons s r=>funext x;simp only[killH,look_killHeap,h]
theorem strikeH_congr {h1 h2:Heap} (h:look h1=look h2) (ss:List Nat):look (strikeH ss h1)=look (strikeH ss h2):=by
 cases ss with
 | nil=>exact h
 | cons s r=>funext x;simp only[strikeH,look_dropAll,look_killHeap,h]
theorem put_congr {h1 h2:Heap} (h:look h1=look h2) (s:Nat) (b:Blk):look (put h1 s b)=look (put h2 s b):=by
 funext x;simp only[look_put,h]
theorem putAll_congr:∀ {c:List (Nat × Blk)} {h1 h2:Heap},look h1=look h2→look (putAll h1 c)=look (putAll h2 c)
 | [],_,_,h=>h
 | (s,b)::r,_,_,h=>putAll_congr (c:=r) (put_congr h s b)
theorem apply_congr {s t:St} (h:Same s t) (d:Option Nat) (e:Eff):Same (s.apply d e) (t.apply d e):=by
 rw[apply_eq,apply_eq,present_congr h.2,h.1]
 exact⟨rfl,putAll_congr (killH_congr (strikeH_congr h.2 _) _)⟩
section
variable {T:Tab} {C:CallF}
theorem chgOk_congr {h1 h2:Heap} (h:look h1=look h2):∀ c:List (Nat × Blk),chgOk h1 c=chgOk h2 c
 | []=>rfl
 | (s,.log _ _)::r=>rfl
 | (s,.box _)::r=>by simp only[chgOk,h,chgOk_congr h r]
 | (s,.arr _ _ _)::r=>by simp only[chgOk,h,chgOk_congr h r]
 | (s,.tb _ _ _)::r=>by simp only[chgOk,h,chgOk_congr h r]
 | (s,.mp _ _)::r=>by simp only[chgOk,h,chgOk_congr h r]
 | (s,.br _ _)::r=>by simp only[chgOk,h,chgOk_congr h r]
theorem quiet_congr {draw:Bool} {cls:Cls} {o:List Nat} {h1 h2:Heap} (h:look h1=look h2) (e:Eff):quietEff draw cls o h1 e=quietEff draw cls o h2 e:=by
 unfold quietEff;rw[present_congr h,chgOk_congr h]
theorem step1_eq {draw : Bool} {hd : List Nat} {all : List Oper} {o : Oper} {st : St} :
    step1 T C draw hd all o st=(actE T C all o st.env (hideH hd (look st.heap))).bind fun e=>if(frzOk (e.new++e.frz)&&quietEff draw (opClass T all o) (opSites all o) st.heap e)=true then some (st.apply o.dst e) else none:=by
  unfold step1 actE
  cases act1 T C all o st.env (hideH hd (look st.heap)) with
  | none=>rfl
  | some x =>
   cases x with
   | none =>
    simp only[Option.map_some,Option.getD_none,Option.bind_some]
    have:quietEff draw (opClass T all o) (opSites all o) st.heap { val:=.tup [] }=true:=by
     cases draw with
     | false=>rfl
     | true=>cases opClass T all o<;>rfl
    rw[if_pos (by simp[frzOk,this]),apply_eq]
    simp[present,killEnv_nil,killH,strikeH,putAll]
   | some e=>rfl
theorem step1_some {draw : Bool} {hd : List Nat} {all : List Oper} {o : Oper} {st st' : St} : step1 T C draw hd all o st = some st' ↔
    ∃ e,actE T C all o st.env (hideH hd (look st.heap))=some e∧frzOk (e.new++e.frz)=true∧quietEff draw (opClass T all o) (opSites all o) st.heap e=true∧st'=st.apply o.dst e:=by
  rw[step1_eq]
  cases h:actE T C all o st.env (hideH hd (look st.heap)) with
  | none=>simp
  | some e =>
   simp only[Option.bind_some,Option.some.injEq,exists_eq_left']
   constructor
   · intro h
     split at h
     · rename_i hc
       simp only[Bool.and_eq_true]at hc
       exact⟨hc.1,hc.2,by simpa using h.symm⟩
     · cases h
   · rintro ⟨h1,h2,rfl⟩
     rw[if_pos (by simp[h1,h2])]
theorem step1_congr {draw:Bool} {hd:List Nat} {all:List Oper} {o:Oper} {s t s':St} (h:Same s t) (h1:step1 T C draw hd all o s=some s'):∃ t',step1 T C draw hd all o t=some t'∧Same s' t':=by
 obtain⟨e,g1,g2,g3,rfl⟩:=step1_some.1 h1
 refine⟨t.apply o.dst e,step1_some.2 ⟨e,?_,g2,?_,rfl⟩,apply_congr h _ _⟩
 · rw[← h.1,← h.2];exact g1
 · rw[← quiet_congr h.2];exact g3
def lastOf:List (Nat × Blk)→Nat→Option Blk
 | [],_=>none
 | (s,b)::r,x=>match lastOf r x with
  | some c=>some c
  | none=>if x=s then some b else none
theorem look_putAll_last:∀ (c:List (Nat × Blk)) (hp:Heap) (x:Nat),look (putAll hp c) x=match lastOf c x with | some b=>some b | none=>look hp x
 | [],hp,x=>rfl
 | (s,b)::r,hp,x=>by
  show look (putAll (put hp s b) r) x=_
  rw[look_putAll_last r]
  simp only[lastOf]
  cases lastOf r x with
  | some c=>rfl
  | none =>
   simp only[look_put]
   by_cases h:x=s<;>simp[h]
theorem lastOf_none {x:Nat}:∀ {c:List (Nat × Blk)},x ∉ keysOf c→lastOf c x=none
 | [],_=>rfl
 | (s,b)::r,h=>by
  simp only[keysOf,List.mem_cons,not_or]at h
  simp[lastOf,lastOf_none h.2,h.1]
theorem putAll_swap {c1 c2:List (Nat × Blk)} (h:∀ x,x∈keysOf c1→x ∉ keysOf c2) (hp:Heap):look (putAll (putAll hp c1) c2)=look (putAll (putAll hp c2) c1):=by
 funext x
 simp only[look_putAll_last]
 by_cases h1:x∈keysOf c1
 · rw[lastOf_none (h x h1)]
 · rw[lastOf_none h1]
theorem keysIn_mem {ss:List Nat}:∀ {c:List (Nat × Blk)},keysIn ss c=true→∀ x∈keysOf c,x∈ss
 | [],_,x,h=>by simp[keysOf]at h
 | (k,b)::r,h,x,hx=>by
  simp only[keysIn,Bool.and_eq_true]at h
  simp only[keysOf,List.mem_cons]at hx
  rcases hx with rfl | hx
  · exact memN_iff.1 h.1
  · exact keysIn_mem h.2 x hx
theorem subN_mem {ss:List Nat}:∀ {l:List Nat},subN ss l=true→∀ x∈l,x∈ss
 | [],_,x,h=>by simp at h
 | y::r,h,x,hx=>by
  simp only[subN,Bool.and_eq_true]at h
  rcases List.mem_cons.1 hx with rfl | hx
  · exact memN_iff.1 h.1
  · exact subN_mem h.2 x hx
theorem hide_put {U:List Nat} {c:List (Nat × Blk)} (h:∀ x∈keysOf c,x∈U) (hp:Heap):hideH U (look (putAll hp c))=hideH U (look hp):=by
 cases U with
 | nil =>
  cases c with
  | nil=>rfl
  | cons p r=>obtain⟨k,b⟩:=p;exact absurd (h k (by simp[keysOf])) (by simp)
 | cons s r =>
  funext x
  simp only[hideH]
  cases hm:memN x (s::r) with
  | true=>rfl
  | false =>
   simp only[cond_false]
   rw[look_putAll_last,lastOf_none fun hx=>memN_false.1 hm (h x hx)]
theorem present_empty {hp:Heap}:∀ {l:List Nat},present hp l=[]↔∀ s∈l,look hp s=none
 | []=>by simp[present]
 | s::r=>by
  simp only[present,List.mem_cons,forall_eq_or_imp]
  cases h:look hp s with
  | some b=>simp
  | none=>simp[present_empty]
theorem setEnv_comm {env:List AV} {d1 d2:Option Nat} {v1 v2:AV} (h:∀ d,d1=some d→d2≠some d):setEnv (setEnv env d1 v1) d2 v2=setEnv (setEnv env d2 v2) d1 v1:=by
 cases d1 with
 | none=>rfl
 | some a =>
  cases d2 with
  | none=>rfl
  | some b=>exact List.set_comm _ _ fun e=>h a rfl (by rw[e])
theorem setEnv_getD {env:List AV} {d:Option Nat} {v:AV} {t:Nat} (h:d≠some t):(setEnv env d v).getD t .undef=env.getD t .undef:=by
 cases d with
 | none=>rfl
 | some a =>
  have:a≠t:=fun e=>h (by rw[e])
  simp only[setEnv,List.getD_eq_getElem?_getD,List.getElem?_set_ne this]
theorem killEnv_set {ss:List Nat} {env:List AV} {d:Option Nat} {v:AV} (h:v=.undef∨v=.tup []∨∃ x,v=.p x):killEnv ss (setEnv env d v)=setEnv (killEnv ss env) d v:=by
 have hk:AV.kill ss v=v:=by
  rcases h with rfl | rfl | ⟨x,rfl⟩<;>rfl
 cases d with
 | none=>rfl
 | some a =>
  apply List.ext_getElem?
  intro i
  simp only[setEnv,killEnv_get]
  by_cases hi:a=i
  · subst hi
    by_cases hl:a<env.length
    · simp[hl,killEnv_length,hk]
    · rw[List.getElem?_eq_none (by simp;omega),List.getElem?_eq_none (by simp[killEnv_length];omega)];rfl
  · rw[List.getElem?_set_ne hi,List.getElem?_set_ne hi,killEnv_get]
theorem killEnv_p {ss:List Nat} {env:List AV} {t:Nat} {v:PV}:(killEnv ss env).getD t .undef=.p v↔env.getD t .undef=.p v:=by
 simp only[List.getD_eq_getElem?_getD,killEnv_get]
 cases env[t]? with
 | none=>simp
 | some u =>
  simp only[Option.map_some,Option.getD_some]
  unfold AV.kill
  cases h:AV.refers ss u with
  | false=>simp
  | true =>
   simp only[cond_true]
   constructor
   · intro h';cases h'
   · rintro rfl;simp[AV.refers]at h
theorem killEnv_hole {ss:List Nat} {env:List AV} {t:Nat}:(killEnv ss env).getD t .undef=.tup []↔env.getD t .undef=.tup []:=by
 simp only[List.getD_eq_getElem?_getD,killEnv_get]
 cases env[t]? with
 | none=>simp
 | some u =>
  simp only[Option.map_some,Option.getD_some]
  unfold AV.kill
  cases h:AV.refers ss u with
  | false=>simp
  | true =>
   simp only[cond_true]
   constructor
   · intro h';cases h'
   · rintro rfl;simp[AV.refers,AV.refersAny]at h
def IsG (v:AV):Prop:=(∃ b,v=.p (.bool b))∨v=.tup []
theorem killEnv_g {ss:List Nat} {env:List AV} {t:Nat} {v:AV} (hv:IsG v):(killEnv ss env).getD t .undef=v↔env.getD t .undef=v:=by
 rcases hv with ⟨b,rfl⟩ | rfl
 · exact killEnv_p
 · exact killEnv_hole
theorem killEnv_v {ss:List Nat} {env:List AV} {t:Nat} {v:AV} (hv:v.isPV=true):(killEnv ss env).getD t .undef=v↔env.getD t .undef=v:=by
 rcases isPV_or hv with rfl | ⟨x,rfl⟩
 · exact killEnv_hole
 · exact killEnv_p
end
end Go.Skm
namespace Go.Skm
section
variable {T:Tab} {C:CallF}
theorem noneIn_mem {ss:List Nat}:∀ {l:List Nat},noneIn ss l=true→∀ x∈l,x ∉ ss
 | [],_,x,h=>by simp at h
 | y::r,h,x,hx=>by
  simp only[noneIn,Bool.and_eq_true,Bool.not_eq_true']at h
  rcases List.mem_cons.1 hx with rfl | hx
  · exact memN_false.1 h.1
  · exact noneIn_mem h.2 x hx
theorem apartO_spec {all : List Oper} {x y : Oper} (h : apartO all x y = true) :
    (∀ d,x.dst=some d→d ∉ looksOf all y)∧(∀ d,x.dst=some d→y.dst≠some d)∧(∀ d,y.dst=some d→d ∉ looksOf all x):=by
  unfold apartO at h
  simp only[Bool.and_eq_true]at h
  refine⟨fun d hd=>?_,fun d hd=>?_,fun d hd=>?_⟩
  · have:=h.1;rw[hd]at this;simp only[Bool.and_eq_true,Bool.not_eq_true']at this;exact memN_false.1 this.1
  · have:=h.1;rw[hd]at this;simp only[Bool.and_eq_true,Bool.not_eq_true']at this;simpa using this.2
  · have:=h.2;rw[hd]at this;simp only[Bool.not_eq_true']at this;exact memN_false.1 this
theorem apply_simple {st:St} {d:Option Nat} {e:Eff} (h1:e.cut=[]) (h2:e.frz=[]) (h3:present st.heap e.new=[]):st.apply d e=⟨setEnv st.env d e.val,putAll st.heap e.chg⟩:=by
 rw[apply_eq,h1,h2,h3]
 simp[killEnv_nil,killH,strikeH]
theorem actE_const {all : List Oper} {o : Oper} (hc : opClass T all o = .const) {env : List AV} {h : Nat → Option Blk} {e : Eff} (he : actE T C all o env h = some e) :
    (∃ v,e={ val:=v }∧(v=.undef∨v=.tup []∨∃ x,v=.p x)) ∧
    ∀ env' h',(∀ g want t v,o.guard=some (g,want)→dstOf all g=some t→IsG v→env.getD t .undef=v→env'.getD t .undef=v)→actE T C all o env' h'=some e:=by
  obtain⟨v,hv,hs⟩:=stepOp_const (C:=C) hc
  have hv':v=.undef∨v=.tup []∨∃ x,v=.p x:=hv.imp id .inr
  unfold actE act1 at he ⊢
  simp only[hs]at he ⊢
  cases hg:o.guard with
  | none =>
   rw[hg]at he
   simp only[DT.run,Option.map_some,Option.getD_some,Option.some.injEq]at he
   subst he
   exact⟨⟨v,rfl,hv'⟩,fun env' h' _=>rfl⟩
  | some gw =>
   obtain⟨g,want⟩:=gw
   rw[hg]at he
   simp only at he ⊢
   cases hd:dstOf all g with
   | none=>rw[hd]at he;simp at he
   | some t =>
    rw[hd]at he
    simp only at he ⊢
    by_cases hx:∃ b,env.getD t .undef=.p (.bool b)
    · obtain⟨b,hb⟩:=hx
      rw[hb]at he
      simp only at he
      refine⟨?_,fun env' h' hk=>?_⟩
      · split at he
        · simp[DT.run]at he;subst he;exact⟨v,rfl,hv'⟩
        · simp at he;subst he;exact⟨.tup [],rfl,.inr (.inl rfl)⟩
      · rw[hk g want t _ rfl hd (.inl ⟨b,rfl⟩) hb]
        exact he
    · by_cases hh:env.getD t .undef=.tup []
      · rw[hh]at he
        simp only[Option.map_some,Option.getD_none,Option.some.injEq]at he
        subst he
        refine⟨⟨.tup [],rfl,.inr (.inl rfl)⟩,fun env' h' hk=>?_⟩
        rw[hk g want t _ rfl hd (.inr rfl) hh]
        rfl
      · split at he
        · rename_i b hb;exact absurd ⟨b,hb⟩ hx
        all_goals (first | exact absurd ⟨_,‹_›⟩ hx | exact absurd ‹_› hh | simp at he)
theorem guard_looks {all:List Oper} {o:Oper} {g t:Nat} {want:Bool} (hg:o.guard=some (g,want)) (hd:dstOf all g=some t):t∈looksOf all o:=by
 unfold looksOf
 unfold dstOf at hd
 rw[hg]
 simp[hd]
theorem actE_calc {all : List Oper} {o : Oper} (hc : opClass T all o = .plain) {env : List AV} {h h0 : Heap} {hh : Nat → Option Blk} {ss : List Nat} {e : Eff} (he : actE T C all o env hh = some e) (hq : quietEff true .plain ss h0 e = true) :
    (∃ v,e={ val:=v }∧(v=.undef∨v=.tup []∨∃ x,v=.p x)) ∧
    ∀ env' h',(∀ t∈looksOf all o,∀ u:AV,u.isPV=true→env.getD t .undef=u→env'.getD t .undef=u)→actE T C all o env' h'=some e:=by
  have _:=h
  simp only[quietEff,Bool.and_eq_true,List.isEmpty_iff]at hq
  obtain⟨q1,q2,q3,q4,q5⟩:=hq
  obtain⟨ev,ec,en,eu,ef⟩:=e
  simp only at q1 q2 q3 q4 q5
  subst q1 q2 q3 q4
  refine⟨⟨ev,rfl,.inr (isPV_or q5)⟩,fun env' h' hk=>?_⟩
  have hs:∀ {e':Eff},(stepOp T C env hh o).run some=some e'→e'.val.isPV=true→(stepOp T C env' h' o).run some=some e':=fun h1 h2 =>
   stepOp_calc hc h1 h2 env' h' fun t ht=>hk t (List.mem_append_left _ ht)
  unfold actE act1 at he ⊢
  cases hg:o.guard with
  | none =>
   rw[hg]at he
   simp only at he ⊢
   cases hr:(stepOp T C env hh o).run some with
   | none=>rw[hr]at he;simp at he
   | some e' =>
    rw[hr]at he
    simp only[Option.map_some,Option.getD_some,Option.some.injEq]at he
    subst he
    rw[hs hr q5];rfl
  | some gw =>
   obtain⟨g,want⟩:=gw
   rw[hg]at he
   simp only at he ⊢
   cases hd:dstOf all g with
   | none=>rw[hd]at he;simp at he
   | some t =>
    rw[hd]at he
    simp only at he ⊢
    have hl:=guard_looks hg hd
    by_cases hx:∃ b,env.getD t .undef=.p (.bool b)
    · obtain⟨b,hb⟩:=hx
      rw[hk t hl _ rfl hb]
      rw[hb]at he
      simp only at he ⊢
      split at he
      · next hbw =>
        rw[if_pos hbw]
        cases hr:(stepOp T C env hh o).run some with
        | none=>rw[hr]at he;simp at he
        | some e' =>
         rw[hr]at he
         simp only[Option.map_some,Option.getD_some,Option.some.injEq]at he
         subst he
         rw[hs hr q5];rfl
      · next hbw=>rw[if_neg hbw];exact he
    · by_cases hh':env.getD t .undef=.tup []
      · rw[hk t hl _ rfl hh']
        rw[hh']at he
        exact he
      · split at he
        · rename_i b hb;exact absurd ⟨b,hb⟩ hx
        all_goals (first | exact absurd ⟨_,‹_›⟩ hx | exact absurd ‹_› hh' | simp at he)
def Facts (o:List Nat) (e:Eff):Cls→Prop
 | .read=>(∀ x∈keysOf e.chg,x∈o)∧(∀ x∈e.new,x∈o)
 | .own t=>(∀ x∈keysOf e.chg,x∈[t])∧e.new=[]
 | .store=>e.new=[]
 | _=>e.chg=[]∧e.new=[]
def notHeavy:Cls→Bool
 | .heavy=>false
 | _=>true
theorem quiet_facts {cls : Cls} {o : List Nat} {h : Heap} {e : Eff} (hq : quietEff true cls o h e = true) (hc : notHeavy cls = true) :
    e.cut=[]∧e.frz=[]∧present h e.new=[] ∧
    Facts o e cls:=by
  cases cls with
  | heavy=>cases hc
  | read =>
   simp only[quietEff,Bool.and_eq_true,List.isEmpty_iff]at hq
   exact⟨hq.1,hq.2.1,hq.2.2.2.2,fun x hx=>keysIn_mem hq.2.2.1 x hx,fun x hx=>subN_mem hq.2.2.2.1 x hx⟩
  | own t =>
   simp only[quietEff,Bool.and_eq_true,List.isEmpty_iff]at hq
   exact⟨hq.1,hq.2.1,by rw[hq.2.2.2];rfl,fun x hx=>keysIn_mem hq.2.2.1 x hx,hq.2.2.2⟩
  | store =>
   simp only[quietEff,Bool.and_eq_true,List.isEmpty_iff]at hq
   exact⟨hq.1,hq.2.1,by rw[hq.2.2];rfl,hq.2.2⟩
  | pure =>
   simp only[quietEff,Bool.and_eq_true,List.isEmpty_iff]at hq
   exact⟨hq.1,hq.2.1,by rw[hq.2.2.2];rfl,hq.2.2.1,hq.2.2.2⟩
  | const =>
   simp only[quietEff,Bool.and_eq_true,List.isEmpty_iff]at hq
   exact⟨hq.1,hq.2.1,by rw[hq.2.2.2];rfl,hq.2.2.1,hq.2.2.2⟩
  | plain =>
   simp only[quietEff,Bool.and_eq_true,List.isEmpty_iff]at hq
   exact⟨hq.1,hq.2.1,by rw[hq.2.2.2.1];rfl,hq.2.2.1,hq.2.2.2.1⟩
theorem quiet_move {cls:Cls} {o:List Nat} {h h':Heap} {e:Eff} (hq:quietEff true cls o h e=true) (hp:present h' e.new=[]):quietEff true cls o h' e=true:=by
 cases cls with
 | read =>
  simp only[quietEff,Bool.and_eq_true,List.isEmpty_iff]at hq ⊢
  exact⟨hq.1,hq.2.1,hq.2.2.1,hq.2.2.2.1,hp⟩
 | _=>exact hq
theorem swap {all : List Oper} {hx ho : List Nat} {x o : Oper} {st st1 st2 : St} (h1 : step1 T C true hx all x st = some st1) (h2 : step1 T C true ho all o st1 = some st2) (hcl : clashFree T all hx ho x o = true)
    (s1:∀ s∈opSites all x,s∈ho) (s2:∀ s∈opSites all o,s∈hx):∃ st1' st2',step1 T C true ho all o st=some st1'∧step1 T C true hx all x st1'=some st2'∧Same st2' st2:=by
  obtain⟨ex,x1,x2,x3,rfl⟩:=step1_some.1 h1
  obtain⟨eo,o1,o2,o3,rfl⟩:=step1_some.1 h2
  unfold clashFree at hcl
  simp only[Bool.and_eq_true]at hcl
  obtain⟨hap,hno,hcls⟩:=hcl
  obtain⟨a1,a2,a3⟩:=apartO_spec hap
  have hno:=noneIn_mem hno
  by_cases hcx:opClass T all x=.const
  · -- the first one is constant
    obtain⟨⟨v,rfl,hv⟩,hk⟩:=actE_const hcx x1
    have e1:st.apply x.dst { val:=v }=⟨setEnv st.env x.dst v,st.heap⟩:=apply_simple rfl rfl rfl
    rw[e1]at o1 o3 ⊢
    have o1':actE T C all o st.env (hideH ho (look st.heap))=some eo:=by
     rw[← o1];exact actE_congr fun t ht=>(setEnv_getD fun e=>a1 t e ht).symm
    refine⟨st.apply o.dst eo,_,step1_some.2 ⟨eo,o1',o2,o3,rfl⟩,step1_some.2 ⟨{ val:=v },hk _ _ fun g want t u hg hd hu hb=>?_,x2,by rw[hcx];rfl,rfl⟩,?_⟩
    · rw[apply_eq]
      simp only
      rw[setEnv_getD fun e=>a3 t e (guard_looks hg hd),killEnv_g hu,killEnv_g hu]
      exact hb
    · rw[apply_simple rfl rfl rfl,apply_eq,apply_eq]
      refine⟨?_,rfl⟩
      simp only
      rw[killEnv_set hv,killEnv_set hv]
      exact setEnv_comm fun d hd e=>a2 d e hd
  · by_cases hco:opClass T all o=.const
    · -- the second one is constant
      obtain⟨⟨v,rfl,hv⟩,hk⟩:=actE_const hco o1
      have o1':actE T C all o st.env (hideH ho (look st.heap))=some { val:=v }:=by
       refine hk _ _ fun g want t u hg hd hu hb=>?_
       rw[apply_eq]at hb
       simp only at hb
       rwa[setEnv_getD fun e=>a1 t e (guard_looks hg hd),killEnv_g hu,killEnv_g hu]at hb
      have e1:st.apply o.dst { val:=v }=⟨setEnv st.env o.dst v,st.heap⟩:=apply_simple rfl rfl rfl
      refine⟨st.apply o.dst { val:=v },st.apply o.dst { val:=v } |>.apply x.dst ex,step1_some.2 ⟨{ val:=v },o1',o2,by rw[hco];rfl,rfl⟩,step1_some.2 ⟨ex,?_,x2,by rw[e1];exact x3,rfl⟩,?_⟩
      · rw[e1,← x1];exact actE_congr fun t ht=>setEnv_getD fun e=>a3 t e ht
      · rw[e1,apply_simple (st:=st.apply x.dst ex) rfl rfl rfl,apply_eq,apply_eq]
        refine⟨?_,rfl⟩
        simp only
        rw[killEnv_set hv,killEnv_set hv]
        exact(setEnv_comm fun d hd e=>a2 d hd e).symm
    · by_cases hcx2:opClass T all x=.plain
      · -- the first one is a calculation
        rw[hcx2]at x3
        obtain⟨⟨v,rfl,hv⟩,hk⟩:=actE_calc (h:=[]) hcx2 x1 x3
        have e1:st.apply x.dst { val:=v }=⟨setEnv st.env x.dst v,st.heap⟩:=apply_simple rfl rfl rfl
        rw[e1]at o1 o3 ⊢
        have o1':actE T C all o st.env (hideH ho (look st.heap))=some eo:=by
         rw[← o1];exact actE_congr fun t ht=>(setEnv_getD fun e=>a1 t e ht).symm
        refine⟨st.apply o.dst eo,_,step1_some.2 ⟨eo,o1',o2,o3,rfl⟩,step1_some.2 ⟨{ val:=v },hk _ _ fun t ht u hu hb=>?_,x2,by rw[hcx2];exact x3,rfl⟩,?_⟩
        · rw[apply_eq]
          simp only
          rw[setEnv_getD fun e=>a3 t e ht,killEnv_v hu,killEnv_v hu]
          exact hb
        · rw[apply_simple rfl rfl rfl,apply_eq,apply_eq]
          refine⟨?_,rfl⟩
          simp only
          rw[killEnv_set hv,killEnv_set hv]
          exact setEnv_comm fun d hd e=>a2 d e hd
      · by_cases hco2:opClass T all o=.plain
        · -- the second one is a calculation
          rw[hco2]at o3
          obtain⟨⟨v,rfl,hv⟩,hk⟩:=actE_calc (h:=[]) hco2 o1 o3
          have o1':actE T C all o st.env (hideH ho (look st.heap))=some { val:=v }:=by
           refine hk _ _ fun t ht u hu hb=>?_
           rw[apply_eq]at hb
           simp only at hb
           rwa[setEnv_getD fun e=>a1 t e ht,killEnv_v hu,killEnv_v hu]at hb
          have e1:st.apply o.dst { val:=v }=⟨setEnv st.env o.dst v,st.heap⟩:=apply_simple rfl rfl rfl
          refine⟨st.apply o.dst { val:=v },st.apply o.dst { val:=v } |>.apply x.dst ex,step1_some.2 ⟨{ val:=v },o1',o2,by rw[hco2];exact o3,rfl⟩,step1_some.2 ⟨ex,?_,x2,by rw[e1];exact x3,rfl⟩,?_⟩
          · rw[e1,← x1];exact actE_congr fun t ht=>setEnv_getD fun e=>a3 t e ht
          · rw[e1,apply_simple (st:=st.apply x.dst ex) rfl rfl rfl,apply_eq,apply_eq]
            refine⟨?_,rfl⟩
            simp only
            rw[killEnv_set hv,killEnv_set hv]
            exact(setEnv_comm fun d hd e=>a2 d hd e).symm
        · -- neither: both only write slots and lay blocks
          have cx:notHeavy (opClass T all x)=true:=by
           cases hx':opClass T all x<;>rw[hx']at hcls<;>first | rfl | skip
           cases ho':opClass T all o<;>rw[ho']at hcls<;>simp at hcls
           · exact absurd ho' hco
           · exact absurd ho' hco2
          have co:notHeavy (opClass T all o)=true:=by
           cases ho':opClass T all o<;>rw[ho']at hcls<;>first | rfl | skip
           cases hx':opClass T all x<;>rw[hx']at hcls<;>simp at hcls
           · exact absurd hx' hcx
           · exact absurd hx' hcx2
          obtain⟨p1,p2,p3,p4⟩:=quiet_facts x3 cx
          obtain⟨q1,q2,q3,q4⟩:=quiet_facts o3 co
          have e1:=apply_simple (d:=x.dst) p1 p2 p3
          rw[e1]at o1 o3 q3 ⊢
          rw[apply_simple q1 q2 q3]
          simp only at o1 o3 q3 ⊢
          have facts:(opClass T all o=.pure∨∀ s∈keysOf ex.chg,s∈ho)∧(opClass T all x=.pure∨∀ s∈keysOf eo.chg,s∈hx)∧(∀ s∈keysOf ex.chg,s ∉ keysOf eo.chg)∧(∀ s∈ex.new,s ∉ keysOf eo.chg):=by
           cases hx':opClass T all x with
           | const=>exact absurd hx' hcx
           | plain=>exact absurd hx' hcx2
           | heavy=>rw[hx']at cx;cases cx
           | pure =>
            rw[hx']at p4
            simp only[Facts]at p4
            refine⟨.inr ?_,.inl rfl,?_,?_⟩<;>simp[p4.1,p4.2,keysOf]
           | read =>
            rw[hx']at p4 hcls
            simp only[Facts]at p4
            cases ho':opClass T all o with
            | const=>exact absurd ho' hco
            | plain=>exact absurd ho' hco2
            | heavy=>rw[ho']at co;cases co
            | pure =>
             rw[ho']at q4
             simp only[Facts]at q4
             refine⟨.inl rfl,.inr ?_,?_,?_⟩<;>simp[q4.1,keysOf]
            | read =>
             rw[ho']at q4
             simp only[Facts]at q4
             exact⟨.inr fun s hs=>s1 s (p4.1 s hs),.inr fun s hs=>s2 s (q4.1 s hs),fun s h1 h2=>hno s (q4.1 s h2) (p4.1 s h1),fun s h1 h2=>hno s (q4.1 s h2) (p4.2 s h1)⟩
            | own t =>
             rw[ho']at q4 hcls
             simp only[Facts,Bool.and_eq_true,Bool.not_eq_true']at q4 hcls
             have ht:∀ s∈keysOf eo.chg,s∈hx∧s ∉ opSites all x:=fun s hs=>by
              have:=q4.1 s hs
              simp at this;subst this
              exact⟨memN_iff.1 hcls.1,memN_false.1 hcls.2⟩
             exact⟨.inr fun s hs=>s1 s (p4.1 s hs),.inr fun s hs=>(ht s hs).1,fun s h1 h2=>(ht s h2).2 (p4.1 s h1),fun s h1 h2=>(ht s h2).2 (p4.2 s h1)⟩
            | store=>rw[ho']at hcls;simp at hcls
           | own t =>
            rw[hx']at p4 hcls
            simp only[Facts]at p4
            cases ho':opClass T all o with
            | const=>exact absurd ho' hco
            | plain=>exact absurd ho' hco2
            | heavy=>rw[ho']at co;cases co
            | pure =>
             rw[ho']at q4
             simp only[Facts]at q4
             refine⟨.inl rfl,.inr ?_,?_,?_⟩<;>simp[q4.1,keysOf]
            | read =>
             rw[ho']at q4 hcls
             simp only[Facts,Bool.and_eq_true,Bool.not_eq_true']at q4 hcls
             have ht:∀ s∈keysOf ex.chg,s∈ho∧s ∉ opSites all o:=fun s hs=>by
              have:=p4.1 s hs
              simp at this;subst this
              exact⟨memN_iff.1 hcls.1,memN_false.1 hcls.2⟩
             exact⟨.inr fun s hs=>(ht s hs).1,.inr fun s hs=>s2 s (q4.1 s hs),fun s h1 h2=>(ht s h1).2 (q4.1 s h2),fun s h1=>by rw[p4.2]at h1;simp at h1⟩
            | own t=>rw[ho']at hcls;simp at hcls
            | store=>rw[ho']at hcls;simp at hcls
           | store =>
            rw[hx']at p4 hcls
            simp only[Facts]at p4
            cases ho':opClass T all o with
            | const=>exact absurd ho' hco
            | plain=>exact absurd ho' hco2
            | heavy=>rw[ho']at co;cases co
            | pure =>
             rw[ho']at q4
             simp only[Facts]at q4
             refine⟨.inl rfl,.inr ?_,?_,?_⟩<;>simp[q4.1,keysOf]
            | read=>rw[ho']at hcls;simp at hcls
            | own t=>rw[ho']at hcls;simp at hcls
            | store=>rw[ho']at hcls;simp at hcls
          obtain⟨f1,f2,f3,f4⟩:=facts
          have n1:present st.heap eo.new=[]:=by
           rw[present_empty]at q3 ⊢
           intro s hs
           have:=q3 s hs
           rw[look_putAll_last]at this
           split at this
           · cases this
           · exact this
          have o1':actE T C all o st.env (hideH ho (look st.heap))=some eo:=by
           rw[actE_congr fun t ht=>setEnv_getD fun e=>a1 t e ht]at o1
           rcases f1 with f1 | f1
           · rw[← o1];exact actE_pure f1
           · rwa[hide_put f1]at o1
          have n2:present (putAll st.heap eo.chg) ex.new=[]:=by
           rw[present_empty]at p3 ⊢
           intro s hs
           rw[look_putAll_last,lastOf_none (f4 s hs)]
           exact p3 s hs
          refine⟨⟨setEnv st.env o.dst eo.val,putAll st.heap eo.chg⟩,⟨setEnv (setEnv st.env o.dst eo.val) x.dst ex.val,putAll (putAll st.heap eo.chg) ex.chg⟩,step1_some.2 ⟨eo,o1',o2,quiet_move o3 n1,(apply_simple q1 q2 n1).symm⟩,step1_some.2 ⟨ex,?_,x2,quiet_move x3 n2,(apply_simple (st:=⟨setEnv st.env o.dst eo.val,putAll st.heap eo.chg⟩) p1 p2 n2).symm⟩,?_⟩
          · simp only
            rw[actE_congr fun t ht=>setEnv_getD fun e=>a3 t e ht]
            rcases f2 with f2 | f2
            · rw[← x1];exact actE_pure f2
            · rw[hide_put f2];exact x1
          · exact⟨(setEnv_comm fun d hd e=>a2 d hd e).symm,(putAll_swap (fun s h1=>f3 s h1) st.heap).symm⟩
end
end Go.Skm
namespace Go.Skm
section
variable {T:Tab} {C:CallF} {hd:List (List Nat)} {all:List Oper}
def runsL (T:Tab) (C:CallF) (hd:List (List Nat)) (all:List Oper):List (Nat × Oper)→St→St→Prop
 | [],st,fin=>Same st fin
 | (j,o)::r,st,fin=>∃ st1,step1 T C true (hd.getD j []) all o st=some st1∧runsL T C hd all r st1 fin
def num:Nat→List Oper→List (Nat × Oper)
 | _,[]=>[]
 | k,o::r=>(k,o)::num (k+1) r
theorem runsL_congr:∀ {l:List (Nat × Oper)} {s t fin:St},Same s t→runsL T C hd all l s fin→runsL T C hd all l t fin
 | [],s,t,fin,h,h1=>h.symm.trans h1
 | (j,o)::r,s,t,fin,h,h1=>by
  obtain⟨s1,h2,h3⟩:=h1
  obtain⟨t1,h4,h5⟩:=step1_congr h h2
  exact⟨t1,h4,runsL_congr h5 h3⟩
theorem runsL_of {α:Type} {k:St→Option α} {x:α}:∀ {l:List Oper} {j:Nat} {st:St},runOps T C true hd all l j st k=some x→∃ fin,runsL T C hd all (num j l) st fin∧k fin=some x
 | [],j,st,h=>⟨st,Same.refl st,h⟩
 | o::r,j,st,h=>by
  rw[runOps_cons _ _ rfl]at h
  cases h1:step1 T C true (hd.getD j []) all o st with
  | none=>rw[h1]at h;cases h
  | some st1 =>
   rw[h1]at h
   obtain⟨fin,h2,h3⟩:=runsL_of (l:=r) (j:=j+1) (st:=st1) h
   exact⟨fin,⟨st1,h1,h2⟩,h3⟩
theorem front {i : Nat} {o : Oper} {R2 : List (Nat × Oper)} : ∀ {R1 : List (Nat × Oper)} {st fin : St},runsL T C hd all (R1 ++ (i,o)::R2) st fin →
    (∀ p∈R1,clashFree T all (hd.getD p.1 []) (hd.getD i []) p.2 o=true∧(∀ s∈opSites all p.2,s∈hd.getD i [])∧(∀ s∈opSites all o,s∈hd.getD p.1 [])) →
    ∃ st1,step1 T C true (hd.getD i []) all o st=some st1∧runsL T C hd all (R1++R2) st1 fin
  | [],st,fin,h,_=>h
  | (j,x)::R1,st,fin,h,hp=>by
   obtain⟨s1,h1,h2⟩:=h
   obtain⟨s2,h3,h4⟩:=front (R1:=R1) h2 fun p hp'=>hp p (by simp[hp'])
   obtain⟨c1,c2,c3⟩:=hp (j,x) (by simp)
   obtain⟨t1,t2,h5,h6,h7⟩:=swap h1 h3 c1 c2 c3
   exact⟨t1,h5,t2,h6,runsL_congr h7.symm h4⟩
def filt (listed:Array Bool) (l:List (Nat × Oper)):List (Nat × Oper):=l.filter fun p=>!listed.getD p.1 true
theorem filt_ne {listed:Array Bool} {i:Nat}:∀ {l:List Oper} {k:Nat},i<k→filt (listed.setIfInBounds i true) (num k l)=filt listed (num k l)
 | [],_,_=>rfl
 | o::r,k,h=>by
  have h1:=filt_ne (listed:=listed) (l:=r) (k:=k+1) (i:=i) (by omega)
  unfold filt at h1 ⊢
  simp only[num,List.filter_cons,h1,getD_set_ne true (show i≠k by omega)]
theorem rest_split {listed : Array Bool} {i : Nat} {o : Oper} (hi : listed.getD i true = false) : ∀ {l : List Oper} {k : Nat},k ≤ i → l[i - k]? = some o →
    ∃ R1 R2,filt listed (num k l)=R1++(i,o)::R2∧filt (listed.setIfInBounds i true) (num k l)=R1++R2∧∀ p∈R1,k≤p.1∧p.1<i∧l[p.1-k]?=some p.2∧listed.getD p.1 true=false
  | [],k,_,h=>by simp at h
  | x::r,k,hk,h=>by
   by_cases he:k=i
   · subst he
     simp at h;subst h
     refine⟨[],filt listed (num (k+1) r),?_,?_,by simp⟩
     · simp only[filt,num,List.filter_cons,hi];simp
     · have:=filt_ne (listed:=listed) (l:=r) (k:=k+1) (i:=k) (by omega)
       have h2:(listed.setIfInBounds k true).getD k true=true:=by
        have hlt:k<listed.size:=by
         rcases Nat.lt_or_ge k listed.size with h' | h'
         · exact h'
         · simp[Array.getElem?_eq_none h']at hi
        simp[hlt]
       unfold filt at this ⊢
       simp only[num,List.filter_cons,h2,this];simp
   · have h' : r[i - (k + 1)]? = some o := by
       have:i-k=(i-(k+1))+1:=by omega
       rw[this]at h;simpa using h
     obtain⟨R1,R2,g1,g2,g3⟩:=rest_split hi (l:=r) (k:=k+1) (by omega) h'
     have hne:(listed.setIfInBounds i true).getD k true=listed.getD k true:=getD_set_ne true (Ne.symm he)
     have up:∀ p∈R1,k≤p.1∧p.1<i∧(x::r)[p.1-k]?=some p.2∧listed.getD p.1 true=false:=fun p hp=>by
      obtain⟨q1,q2,q3,q4⟩:=g3 p hp
      refine⟨by omega,q2,?_,q4⟩
      have:p.1-k=(p.1-(k+1))+1:=by omega
      rw[this];simpa using q3
     cases hl:listed.getD k true with
     | true =>
      refine⟨R1,R2,?_,?_,up⟩
      · rw[← g1];simp only[filt,num,List.filter_cons,hl];simp
      · rw[← g2];simp only[filt,num,List.filter_cons,hne,hl];simp
     | false =>
      refine⟨(k,x)::R1,R2,?_,?_,fun p hp=>?_⟩
      · rw[List.cons_append,← g1];simp only[filt,num,List.filter_cons,hl];simp
      · rw[List.cons_append,← g2];simp only[filt,num,List.filter_cons,hne,hl];simp
      · rcases List.mem_cons.1 hp with rfl | hp
        · exact⟨Nat.le_refl _,by simp only;omega,by simp,hl⟩
        · exact up p hp
theorem addAll_mem {x:Nat}:∀ {l acc:List Nat},x∈addAll acc l↔x∈acc∨x∈l
 | [],acc=>by simp[addAll]
 | y::r,acc=>by
  simp only[addAll,addAll_mem (l:=r),List.mem_cons]
  cases h:memN y acc with
  | true =>
   have:=memN_iff.1 h
   simp only[cond_true]
   constructor
   · rintro (h | h)<;>simp[h]
   · rintro (h | rfl | h)<;>simp[*]
  | false =>
   simp only[cond_false,List.mem_cons]
   constructor
   · rintro ((h | h) | h)<;>simp[h]
   · rintro (h | h | h)<;>simp[h]
theorem preds_mem {done : List (List Nat)} {x : Nat} : ∀ {l : List Edge} {acc : List Nat},x ∈ l.foldl (fun acc e => match e.ground with
    | .textOnly _=>acc
    | .gcOnly _=>acc
    | _=>addAll (addAll acc [e.on]) (done.getD e.on [])) acc→x∈acc∨∃ e∈l,Region.binds .any e=true∧(x=e.on∨x∈done.getD e.on [])
  | [],acc,h=>.inl h
  | e::r,acc,h=>by
   simp only[List.foldl_cons]at h
   rcases preds_mem h with h | ⟨e',h1,h2⟩
   · have hb : (∀ d,e.ground ≠ .textOnly d) → (∀ d,e.ground ≠ .gcOnly d) → Region.binds .any e = true := by
       intro g1 g2
       unfold Region.binds
       cases hg:e.ground<;>simp_all
     have sub:x∈addAll (addAll acc [e.on]) (done.getD e.on [])→x∈acc∨(x=e.on∨x∈done.getD e.on []):=by
      intro h
      rw[addAll_mem,addAll_mem]at h
      simp only[List.mem_singleton]at h
      rcases h with (h | h) | h
      · exact .inl h
      · exact .inr (.inl h)
      · exact .inr (.inr h)
     cases hg:e.ground with
     | textOnly d=>rw[hg]at h;exact .inl h
     | gcOnly d=>rw[hg]at h;exact .inl h
     | _ =>
      rw[hg]at h
      rcases sub h with h | h
      · exact .inl h
      · exact .inr ⟨e,by simp,hb (by simp[hg]) (by simp[hg]),h⟩
   · exact .inr ⟨e',by simp[h1],h2⟩
theorem predTable_get : ∀ {l : List Oper} {acc : List (List Nat)},(∀ n,n < acc.length → (predTable l acc)[n]? = acc[n]?) ∧
    ∀ n o,l[n]?=some o→∃ done,(predTable l acc)[acc.length+n]?=some (predsOf done o)∧∀ m,done.getD m []=[]∨done.getD m []=(predTable l acc).getD m []
  | [],acc=>⟨fun n _=>rfl,fun n o h=>by simp at h⟩
  | x::r,acc=>by
   obtain⟨h1,h2⟩:=predTable_get (l:=r) (acc:=acc++[predsOf acc x])
   have e:predTable (x::r) acc=predTable r (acc++[predsOf acc x]):=rfl
   rw[e]
   have pre:∀ n,n<acc.length→(predTable r (acc++[predsOf acc x]))[n]?=acc[n]?:=fun n hn=>by
    rw[h1 n (by simp;omega),List.getElem?_append_left hn]
   refine⟨pre,fun n o hn=>?_⟩
   cases n with
   | zero =>
    simp at hn;subst hn
    refine⟨acc,?_,fun m=>?_⟩
    · rw[Nat.add_zero,h1 acc.length (by simp)];simp
    · by_cases hm:m<acc.length
      · right;rw[List.getD_eq_getElem?_getD,List.getD_eq_getElem?_getD,pre m hm]
      · left;rw[List.getD_eq_getElem?_getD,List.getElem?_eq_none (by omega)];rfl
   | succ n =>
    simp at hn
    obtain⟨done,h3,h4⟩:=h2 n o hn
    refine⟨done,?_,h4⟩
    rw[← h3]
    congr 1
    simp only[List.length_append,List.length_singleton];omega
theorem pred_of {i x:Nat} {o:Oper} (ho:all[i]?=some o) (hx:x∈(predTable all []).getD i []):∃ e∈o.after,Region.binds .any e=true∧(x=e.on∨x∈(predTable all []).getD e.on []):=by
 obtain⟨_,h⟩:=predTable_get (l:=all) (acc:=[])
 obtain⟨done,h1,h2⟩:=h i o ho
 simp only[List.length_nil,Nat.zero_add]at h1
 rw[List.getD_eq_getElem?_getD,h1]at hx
 simp only[Option.getD_some]at hx
 unfold predsOf at hx
 rcases preds_mem hx with h3 | ⟨e,h3,h4,h5⟩
 · simp at h3
 · refine⟨e,by simpa using h3,h4,h5.imp id fun h5=>?_⟩
   rcases h2 e.on with h6 | h6
   · rw[h6]at h5;simp at h5
   · rw[h6]at h5;exact h5
theorem okDraw_get {tab:List (List Nat)}:∀ {l:List Oper} {k:Nat},okDraw T all tab hd k l=true→∀ n o,l[n]?=some o→backEdges (k+n) o=true∧openOk T all hd (tab.getD (k+n) []) (k+n) o 0 all=true
 | [],k,_,n,o,h=>by simp at h
 | x::r,k,h,n,o,ho=>by
  simp only[okDraw,Bool.and_eq_true]at h
  cases n with
  | zero=>simp at ho;subst ho;exact⟨h.1.1,h.1.2⟩
  | succ n =>
   simp at ho
   have:=okDraw_get h.2 n o ho
   rw[show k+1+n=k+(n+1) from by omega]at this
   exact this
theorem openOk_get {preds:List Nat} {j:Nat} {o:Oper}:∀ {l:List Oper} {k:Nat},openOk T all hd preds j o k l=true→∀ n x,l[n]?=some x→k+n<j→k+n ∉ preds→clashFree T all (hd.getD (k+n) []) (hd.getD j []) x o=true
 | [],k,_,n,x,h=>by simp at h
 | y::r,k,h,n,x,hx=>by
  intro hlt hp
  have hkj:Nat.ble j k=false:=by
   cases hb:Nat.ble j k with
   | false=>rfl
   | true=>have:=Nat.le_of_ble_eq_true hb;omega
  simp only[openOk,hkj,cond_false,Bool.and_eq_true]at h
  cases n with
  | zero =>
   simp at hx;subst hx
   have h1:=h.1
   rw[memN_false.2 (by simpa using hp)]at h1
   simpa using h1
  | succ n =>
   simp at hx
   have e:k+(n+1)=k+1+n:=by omega
   rw[e]at hlt hp ⊢
   exact openOk_get h.2 n x hx hlt hp
theorem back_lt {j:Nat} {o:Oper} (h:backEdges j o=true) {e:Edge} (he:e∈o.after) (hb:Region.binds .any e=true):e.on<j:=by
 unfold backEdges at h
 have:=List.all_eq_true.1 h e (by simpa using he)
 unfold Region.binds at hb
 split at this
 · rename_i hg;rw[hg]at hb;simp at hb
 · rename_i hg;rw[hg]at hb;simp at hb
 · exact Nat.le_of_ble_eq_true this
theorem openSites_mem {all:List Oper} {tab:List (List Nat)} {j s:Nat} {x:Oper}:∀ {l:List Oper} {k n:Nat},l[n]?=some x→k+n≠j→k+n ∉ tab.getD j []→j ∉ tab.getD (k+n) []→s∈opSites all x→s∈openSites T all tab j k l
 | [],k,n,h=>by simp at h
 | y::r,k,n,h=>by
  intro h1 h2 h3 h4
  simp only[openSites]
  cases n with
  | zero =>
   simp at h;subst h
   have:(k==j||memN k (tab.getD j [])||memN j (tab.getD k []))=false:=by
    have e1:(k==j)=false:=by simpa using h1
    rw[e1,memN_false.2 (by simpa using h2),memN_false.2 (by simpa using h3)];rfl
   rw[this]
   simp[h4]
  | succ n =>
   simp at h
   have e:k+(n+1)=k+1+n:=by omega
   rw[e]at h1 h2 h3
   have:=openSites_mem (k:=k+1) h h1 h2 h3 h4
   cases (k==j||memN k (tab.getD j [])||memN j (tab.getD k []))<;>simp[this]
theorem sameNats_eq:∀ {a b:List (List Nat)},sameNats a b=true→a=b
 | [],[],_=>rfl
 | x::xs,y::ys,h=>by
  simp only[sameNats,Bool.and_eq_true,beq_iff_eq]at h
  rw[h.1,sameNats_eq h.2]
 | [],_::_,h=>by simp[sameNats]at h
 | _::_,[],h=>by simp[sameNats]at h
section
variable (hok:okDraw T all (predTable all []) hd 0 all=true)
include hok
theorem pred_lt:∀ {i x:Nat} {o:Oper},all[i]?=some o→x∈(predTable all []).getD i []→x<i:=by
 intro i
 induction i using Nat.strongRecOn with
 | _ i ih =>
  intro x o ho hx
  obtain⟨e,h1,h2,h3⟩:=pred_of ho hx
  have hb:=(okDraw_get hok i o ho).1
  rw[Nat.zero_add]at hb
  have hlt:=back_lt hb h1 h2
  rcases h3 with rfl | h3
  · exact hlt
  · have hl : e.on < all.length := by
      have:=(List.getElem?_eq_some_iff.1 ho).1
      omega
    have:=ih e.on hlt (x:=x) (o:=all[e.on]) (by simp) h3
    omega
theorem open_pair (hhd : sameNats hd (hidesOf T all) = true) {i j : Nat} {o x : Oper} (hi : all[i]? = some o) (hj : all[j]? = some x) (hlt : j < i) (hp : j ∉ (predTable all []).getD i []) :
    clashFree T all (hd.getD j []) (hd.getD i []) x o=true∧(∀ s∈opSites all x,s∈hd.getD i [])∧(∀ s∈opSites all o,s∈hd.getD j []):=by
  have hh:=sameNats_eq hhd
  have hget:∀ n,n<all.length→hd.getD n []=openSites T all (predTable all []) n 0 all:=by
   intro n hn
   rw[hh]
   simp[hidesOf,hn]
  have hil:=(List.getElem?_eq_some_iff.1 hi).1
  have hjl:=(List.getElem?_eq_some_iff.1 hj).1
  have hij:i ∉ (predTable all []).getD j []:=fun h=>by have:=pred_lt hok hj h;omega
  refine⟨?_,fun s hs=>?_,fun s hs=>?_⟩
  · have:=openOk_get (okDraw_get hok i o hi).2 j x hj (by omega) (by simpa using hp)
    simpa using this
  · rw[hget i hil]
    exact openSites_mem (k:=0) (n:=j) hj (by omega) (by simpa using hp) (by simpa using hij) hs
  · rw[hget j hjl]
    exact openSites_mem (k:=0) (n:=i) hi (by omega) (by simpa using hij) (by simpa using hp) hs
end
end
end Go.Skm
namespace Go.Skm
section
variable {P:Program} {T:Tab} {C:CallF} {cx:Cx} {st st':St} {a:Act} {w:World}
theorem Inv.same (i:Inv cx st a w) (h:Same st st'):Inv cx st' a w:=by
 obtain⟨M,β,L,ds,r,i1,i2,i3,fx⟩:=i
 have r':=r.congr (hp:=st'.heap) fun s=>by rw[h.2]
 have e:({ st with heap:=st'.heap }:St)=st':=by
  cases st;cases st';simp only[St.mk.injEq,and_true];exact h.1
 rw[e]at r'
 refine⟨M,β,L,ds,r',i1,fun s hs b hb=>i2 s hs b ?_,i3,fx.less (fun p hp=>rfl) fun b ho=>?_⟩
 · rw[h.2];exact hb
 · obtain⟨s,o,hs,hb⟩:=ho
   exact⟨s,o,by rw[h.2];exact hs,hb⟩
theorem Inv.drew (i:Inv cx st a w):Inv cx st a { w with drawn:=w.drawn+1 }:=by
 obtain⟨M,β,L,ds,r,i1,i2,i3,fx⟩:=i
 exact⟨M,β,L,ds,r.world (w':={ w with drawn:=w.drawn+1 }) (Nat.le_refl _) rfl rfl rfl (fun _ _ _=>rfl) (fun b n _ _ _ h=>h) (fun b h=>h) (fun b h=>.inl h),i1,i2,i3.trans fun _=>Nat.le_succ _,fx.less (fun p hp=>rfl) fun _ h=>h⟩
theorem strike_owned {β:Nat→Option (Nat × Nat)} {ss:List Nat} {b:Nat} (h:Owned β (st.strike ss).heap b):Owned β st.heap b:=by
 obtain⟨s,o,hs,hb⟩:=h
 refine⟨s,o,?_,hb⟩
 rw[look_strike]at hs
 by_cases hm:s∈ss
 · rw[if_pos hm]at hs;cases hs
 · rw[if_neg hm]at hs;simpa using hs
theorem Inv.strike (i:Inv cx st a w) (ss:List Nat):Inv cx (st.strike ss) a w:=by
 obtain⟨M,β,L,ds,r,i1,i2,i3,fx⟩:=i
 exact⟨M,β,L,ds,r.strike ss (fun b h=>h) fun b h=>.inl h,i1,i2.trans (strike_like st ss),i3,fx.less (fun p hp=>rfl) fun _ ho=>strike_owned ho⟩
theorem sim_any (ok : TabOk P T) (hC : CallOk P T cx.w0.gl C) {ops : Array Oper} {hd : List (List Nat)} (hok : okDraw T ops.toList (predTable ops.toList []) hd 0 ops.toList = true) (hhd : sameNats hd (hidesOf T ops.toList) = true)
    {Q:Exit→Act→World→Prop} {fin:St} (hQ:∀ a w,Inv cx fin a w→Q .normal a w) (hw:∀ o∈ops.toList,OpFit cx o) {rd:Option Nat} {n:Nat} :
    ∀ (fuel:Nat) (listed:Array Bool) (st:St) (a:Act) (w:World),fuel=(filt listed (num 0 ops.toList)).length →
     (∀ q,listed.getD q false=true→∀ p∈(predTable ops.toList []).getD q [],listed.getD p false=true)→listed.size=ops.size →
     runsL T C hd ops.toList (filt listed (num 0 ops.toList)) st fin→Inv cx st a w→wpAnyIn (FW rd) n P .any ops Q fuel listed a w:=by
  intro fuel
  induction fuel with
  | zero =>
   intro listed st a w hf hcl hsz hr i
   have h0:filt listed (num 0 ops.toList)=[]:=List.length_eq_zero_iff.1 hf.symm
   rw[h0]at hr
   refine⟨?_,hQ a w (i.same hr)⟩
   rw[List.eq_nil_iff_forall_not_mem]
   intro j hj
   obtain⟨h1,o,h2,_⟩:=mem_ready.1 hj
   obtain⟨R1,R2,g1,_⟩:=rest_split h1 (l:=ops.toList) (k:=0) (o:=o) (by omega) (by simpa using h2)
   rw[h0]at g1
   simp at g1
  | succ fuel ih =>
   intro listed st a w hf hcl hsz hr i
   refine⟨fun hnil=>?_,fun j hj=>?_⟩
   · -- the first that is not listed is ready
     exfalso
     cases hL:filt listed (num 0 ops.toList) with
     | nil=>rw[hL]at hf;simp at hf
     | cons p r =>
      have hex:∃ n,n<ops.size∧listed.getD n true=false:=by
       have hp:p∈filt listed (num 0 ops.toList):=by rw[hL];simp
       unfold filt at hp
       rw[List.mem_filter]at hp
       have h1:listed.getD p.1 true=false:=by simpa using hp.2
       refine⟨p.1,?_,h1⟩
       rcases Nat.lt_or_ge p.1 listed.size with h' | h'
       · omega
       · simp[Array.getElem?_eq_none h']at h1
      have hmin:∃ n,(n<ops.size∧listed.getD n true=false)∧∀ m,m<n→¬ (m<ops.size∧listed.getD m true=false):=by
       obtain⟨n,hn⟩:=hex
       induction n using Nat.strongRecOn with
       | _ n ihn =>
        by_cases hm:∃ m,m<n∧(m<ops.size∧listed.getD m true=false)
        · obtain⟨m,h1,h2⟩:=hm;exact ihn m h1 h2
        · exact⟨n,hn,fun m h1 h2=>hm ⟨m,h1,h2⟩⟩
      obtain⟨n,⟨h1,h2⟩,h3⟩:=hmin
      have:n∈Region.ready .any ops listed:=by
       rw[mem_ready]
       refine⟨h2,ops[n],by simp,fun e he hb=>?_⟩
       have hlt:=back_lt (okDraw_get hok n ops[n] (by simp)).1 he hb
       rw[Nat.zero_add]at hlt
       have:=h3 e.on hlt
       have hl:e.on<ops.size:=by omega
       have hl':e.on<listed.size:=by omega
       cases hb':listed.getD e.on true with
       | false=>exact absurd ⟨hl,hb'⟩ this
       | true=>simpa [hl'] using hb'
      rw[hnil]at this;simp at this
   · obtain⟨h1,o,h2,h3⟩:=mem_ready.1 hj
     have h2':ops.toList[j]?=some o:=by simpa using h2
     obtain⟨R1,R2,g1,g2,g3⟩:=rest_split h1 (l:=ops.toList) (k:=0) (o:=o) (by omega) (by simpa using h2)
     have hpre:∀ p∈(predTable ops.toList []).getD j [],listed.getD p false=true:=by
      intro p hp
      obtain⟨e,q1,q2,q3⟩:=pred_of h2' hp
      rcases q3 with rfl | q3
      · exact h3 e q1 q2
      · exact hcl e.on (h3 e q1 q2) p q3
     rw[g1]at hr hf
     obtain⟨st1,k1,k2⟩:=front hr fun p hp=>by
      obtain⟨q1,q2,q3,q4⟩:=g3 p hp
      refine open_pair hok hhd h2' (by simpa using q3) q2 fun hm=>?_
      have:=hpre p.1 hm
      have hl:p.1<listed.size:=by
       have:=(List.getElem?_eq_some_iff.1 q3).1
       simp at this;omega
      simp[hl]at q4 this
      rw[q4]at this;cases this
     have hs:=sim1 ok hC rfl (hw o (List.mem_of_getElem? h2')) i k1 (rd:=rd) (n:=n) (K:=wpAnyIn (FW rd) n P .any ops Q fuel (listed.setIfInBounds j true)) (fun a' w' i'=>ih (listed.setIfInBounds j true) st1 a' w' (by
      rw[g2];simp only[List.length_append,List.length_cons]at hf ⊢;omega) (fun q hq p hp=>by
      by_cases hjq:j=q
      · subst hjq;exact getD_set_true (hpre p hp)
      · rw[getD_set_ne false hjq]at hq
        exact getD_set_true (hcl q hq p hp)) (by simpa using hsz) (by rw[g2];exact k2) i') (Q:=Q)
     unfold wpOpIn
     rw[h2]
     simp only
     split
     · rename_i hw;rw[if_pos hw]at hs;exact hs
     · rename_i hw;rw[if_neg hw]at hs;exact⟨fun _ _=>trivial,hs⟩
theorem allBelow_mem {l:List Nat}:∀ {n m:Nat},allBelow l n=true→m<n→m∈l
 | 0,m,_,h=>by omega
 | n+1,m,ha,h=>by
  simp only[allBelow,Bool.and_eq_true]at ha
  by_cases e:m=n
  · subst e;exact memN_iff.1 ha.1
  · exact allBelow_mem ha.2 (by omega)
theorem chain_get {tab:List (List Nat)} {j:Nat}:∀ {l:List Oper} {k n:Nat} {o:Oper},chainFrom tab j k l=true→l[n]?=some o→j≤k+n→∀ m,m<k+n→m∈tab.getD (k+n) []
 | [],k,n,o,_,h=>by simp at h
 | x::r,k,0,o,hc,h=>by
  intro hj m hm
  simp only[chainFrom,Bool.and_eq_true,Bool.or_eq_true]at hc
  rcases hc.1 with h1 | h1
  · have:k<j:=by simpa [Nat.blt_eq] using h1
    omega
  · exact allBelow_mem h1 hm
 | x::r,k,n+1,o,hc,h=>by
  intro hj m hm
  simp only[chainFrom,Bool.and_eq_true]at hc
  simp at h
  have:=chain_get (n:=n) hc.2 h (by omega) m (by omega)
  rw[show k+1+n=k+(n+1) from by omega]at this
  exact this
theorem wpAny_list {ops : Array Oper} {hd : List (List Nat)} (hok : okDraw T ops.toList (predTable ops.toList []) hd 0 ops.toList = true) {j : Nat} (hch : chainFrom (predTable ops.toList []) j 0 ops.toList = true) {F : Fence} {n : Nat} {Q : Exit → Act → World → Prop} :
    ∀ (l:List Oper) (i:Nat) (listed:Array Bool) (a:Act) (w:World),j≤i→ops.toList.drop i=l→listed.size=ops.size→(∀ q,q<ops.size→listed.getD q false=decide (q<i))→wpListIn F n P ops Q l a w→wpAnyIn F n P .any ops Q l.length listed a w:=by
  have gd:∀ (listed:Array Bool) (q:Nat),q<listed.size→listed.getD q true=listed.getD q false:=fun listed q h=>by simp[h]
  intro l
  induction l with
  | nil =>
   intro i listed a w hji hdr hsz hls h
   refine⟨?_,h⟩
   rw[List.eq_nil_iff_forall_not_mem]
   intro q hq
   obtain⟨h1,o,h2,_⟩:=mem_ready.1 hq
   have hlt:q<ops.size:=(Array.getElem?_eq_some_iff.1 h2).1
   rw[gd listed q (by omega),hls q hlt]at h1
   have:ops.toList.length≤i:=List.drop_eq_nil_iff.1 hdr
   simp at this h1
   omega
  | cons o r ih =>
   intro i listed a w hji hdr hsz hls h
   have hi:ops.toList[i]?=some o:=by
    have:(ops.toList.drop i)[0]?=some o:=by rw[hdr];rfl
    simpa using this
   have hr:ops.toList.drop (i+1)=r:=by
    rw[← List.drop_drop,hdr];rfl
   have hi':ops[i]?=some o:=by simpa using hi
   have hil:i<ops.size:=(Array.getElem?_eq_some_iff.1 hi').1
   have hrd:i∈Region.ready .any ops listed:=by
    rw[mem_ready]
    refine⟨by rw[gd listed i (by omega),hls i hil];simp,o,hi',fun e he hb=>?_⟩
    have hlt:=back_lt (okDraw_get hok i o hi).1 he hb
    rw[Nat.zero_add]at hlt
    rw[hls e.on (by omega)]
    simpa using hlt
   refine⟨fun h0=>by rw[h0]at hrd;simp at hrd,fun q hq=>?_⟩
   obtain⟨h1,oq,h2,h3⟩:=mem_ready.1 hq
   have hql:q<ops.size:=(Array.getElem?_eq_some_iff.1 h2).1
   have hqi:i≤q:=by
    rw[gd listed q (by omega),hls q hql]at h1
    simpa using h1
   have hqe:q=i:=by
    by_cases e:q=i
    · exact e
    · exfalso
      have hm:i∈(predTable ops.toList []).getD q []:=by
       have:=chain_get (k:=0) (n:=q) (o:=oq) hch (by simpa using h2) (by omega) i (by omega)
       simpa using this
      obtain⟨e',q1,q2,q3⟩:=pred_of (by simpa using h2) hm
      have he:=h3 e' q1 q2
      have hel:=back_lt (okDraw_get hok q oq (by simpa using h2)).1 q1 q2
      rw[Nat.zero_add]at hel
      rw[hls e'.on (by omega)]at he
      have he:e'.on<i:=by simpa using he
      rcases q3 with q3 | q3
      · omega
      · have:=pred_lt hok (i:=e'.on) (x:=i) (o:=ops.toList[e'.on]'(by simp;omega)) (by simp) q3
        omega
   subst hqe
   rw[hi']at h2;cases h2
   unfold wpListIn at h
   unfold wpOpIn
   rw[hi']
   simp only
   have hls':∀ k,k<ops.size→(listed.setIfInBounds q true).getD k false=decide (k<q+1):=fun k hk=>by
    by_cases e:q=k
    · subst e
      have:q<listed.size:=by omega
      simp[this]
    · rw[getD_set_ne false e,hls k hk]
      by_cases h':k<q
      · simp[h',show k<q+1 by omega]
      · simp[h',show ¬ k<q+1 by omega]
   have next:∀ a w,wpListIn F n P ops Q r a w→wpAnyIn F n P .any ops Q r.length (listed.setIfInBounds q true) a w:=fun a w h=>ih (q+1) (listed.setIfInBounds q true) a w (by omega) hr (by simpa using hsz) hls' h
   split
   · rename_i hw;rw[if_pos hw]at h;exact Oper.wpIn_mono next h
   · rename_i hw;rw[if_neg hw]at h;exact⟨h.1,next _ _ h.2⟩
theorem num_bound {p:Nat × Oper}:∀ {l:List Oper} {k:Nat},p∈num k l→k≤p.1∧p.1<k+l.length
 | [],k,h=>by simp[num]at h
 | o::r,k,h=>by
  simp only[num,List.mem_cons]at h
  rcases h with rfl | h
  · simp
  · have:=num_bound h
    simp only[List.length_cons]
    omega
theorem sim_anyT (ok : TabOk P T) (hC : CallOk P T cx.w0.gl C) {ops : Array Oper} {hd : List (List Nat)} (hok : okDraw T ops.toList (predTable ops.toList []) hd 0 ops.toList = true) (hhd : sameNats hd (hidesOf T ops.toList) = true)
    {jc:Nat} (hjc:jc≤ops.size) (hch:chainFrom (predTable ops.toList []) jc 0 ops.toList=true) {rd:Option Nat} {n:Nat}
    {Q:Exit→Act→World→Prop} {fin:St} (hQ:∀ a w,Inv cx fin a w→wpListIn (FW rd) n P ops Q (ops.toList.drop jc) a w) (hw:∀ o∈ops.toList,OpFit cx o) :
    ∀ (fuel:Nat) (listed:Array Bool) (st:St) (a:Act) (w:World),fuel=(filt listed (num 0 (ops.toList.take jc))).length→(∀ q,jc≤q→q<ops.size→listed.getD q false=false) →
     (∀ q,listed.getD q false=true→∀ p∈(predTable ops.toList []).getD q [],listed.getD p false=true)→listed.size=ops.size →
     runsL T C hd ops.toList (filt listed (num 0 (ops.toList.take jc))) st fin→Inv cx st a w→wpAnyIn (FW rd) n P .any ops Q (fuel+(ops.size-jc)) listed a w:=by
  intro fuel
  induction fuel with
  | zero =>
   intro listed st a w hf hun hcl hsz hr i
   have h0:filt listed (num 0 (ops.toList.take jc))=[]:=List.length_eq_zero_iff.1 hf.symm
   rw[h0]at hr
   have hls:∀ q,q<ops.size→listed.getD q false=decide (q<jc):=fun q hq=>by
    by_cases e:q<jc
    · have hlt:q<listed.size:=by omega
      cases hb:listed.getD q false with
      | true=>simp[e]
      | false =>
       exfalso
       have h1:listed.getD q true=false:=by simpa [hlt] using hb
       obtain⟨R1,R2,g1,_⟩:=rest_split h1 (l:=ops.toList.take jc) (k:=0) (o:=ops.toList[q]'(by simpa using hq)) (by omega) (by
        rw[Nat.sub_zero,List.getElem?_take_of_lt e]
        simp)
       rw[h0]at g1
       simp at g1
    · rw[hun q (by omega) hq];simp[e]
   have hlen:(ops.toList.drop jc).length=ops.size-jc:=by simp
   rw[Nat.zero_add,← hlen]
   exact wpAny_list hok hch (ops.toList.drop jc) jc listed a w (Nat.le_refl _) rfl hsz hls (hQ a w (i.same hr))
  | succ fuel ih =>
   intro listed st a w hf hun hcl hsz hr i
   rw[show fuel+1+(ops.size-jc)=(fuel+(ops.size-jc))+1 from by omega]
   refine⟨fun hnil=>?_,fun j hj=>?_⟩
   · -- the first that is not listed is ready
     exfalso
     cases hL:filt listed (num 0 (ops.toList.take jc)) with
     | nil=>rw[hL]at hf;simp at hf
     | cons p r =>
      have hex:∃ n,n<ops.size∧listed.getD n true=false:=by
       have hp:p∈filt listed (num 0 (ops.toList.take jc)):=by rw[hL];simp
       unfold filt at hp
       rw[List.mem_filter]at hp
       have h1:listed.getD p.1 true=false:=by simpa using hp.2
       refine⟨p.1,?_,h1⟩
       rcases Nat.lt_or_ge p.1 listed.size with h' | h'
       · omega
       · simp[Array.getElem?_eq_none h']at h1
      have hmin:∃ n,(n<ops.size∧listed.getD n true=false)∧∀ m,m<n→¬ (m<ops.size∧listed.getD m true=false):=by
       obtain⟨n,hn⟩:=hex
       induction n using Nat.strongRecOn with
       | _ n ihn =>
        by_cases hm:∃ m,m<n∧(m<ops.size∧listed.getD m true=false)
        · obtain⟨m,h1,h2⟩:=hm;exact ihn m h1 h2
        · exact⟨n,hn,fun m h1 h2=>hm ⟨m,h1,h2⟩⟩
      obtain⟨n,⟨h1,h2⟩,h3⟩:=hmin
      have:n∈Region.ready .any ops listed:=by
       rw[mem_ready]
       refine⟨h2,ops[n],by simp,fun e he hb=>?_⟩
       have hlt:=back_lt (okDraw_get hok n ops[n] (by simp)).1 he hb
       rw[Nat.zero_add]at hlt
       have:=h3 e.on hlt
       have hl:e.on<ops.size:=by omega
       have hl':e.on<listed.size:=by omega
       cases hb':listed.getD e.on true with
       | false=>exact absurd ⟨hl,hb'⟩ this
       | true=>simpa [hl'] using hb'
      rw[hnil]at this;simp at this
   · obtain⟨h1,o,h2,h3⟩:=mem_ready.1 hj
     have h2':ops.toList[j]?=some o:=by simpa using h2
     have hjl:j<ops.size:=(Array.getElem?_eq_some_iff.1 h2).1
     have hpre0:∀ p∈(predTable ops.toList []).getD j [],listed.getD p false=true:=by
      intro p hp
      obtain⟨e,q1,q2,q3⟩:=pred_of h2' hp
      rcases q3 with rfl | q3
      · exact h3 e q1 q2
      · exact hcl e.on (h3 e q1 q2) p q3
     have hjj:j<jc:=by
      by_cases e:j<jc
      · exact e
      · exfalso
        have hp0:∃ p,p∈filt listed (num 0 (ops.toList.take jc)):=by
         cases hL:filt listed (num 0 (ops.toList.take jc)) with
         | nil=>rw[hL]at hf;simp at hf
         | cons p r=>exact⟨p,by simp⟩
        obtain⟨p,hp⟩:=hp0
        unfold filt at hp
        rw[List.mem_filter]at hp
        have hb:=num_bound hp.1
        have hpl:p.1<jc:=by
         have:=hb.2
         simp at this;omega
        have h1:listed.getD p.1 true=false:=by simpa using hp.2
        have hm:p.1∈(predTable ops.toList []).getD j []:=by
         have:=chain_get (k:=0) (n:=j) (o:=o) hch h2' (by omega) p.1 (by omega)
         simpa using this
        have:=hpre0 p.1 hm
        have hps:p.1<listed.size:=by omega
        simp[hps]at h1 this
        rw[h1]at this;cases this
     obtain⟨R1,R2,g1,g2,g3⟩:=rest_split h1 (l:=ops.toList.take jc) (k:=0) (o:=o) (by omega) (by rw[Nat.sub_zero,List.getElem?_take_of_lt hjj];exact h2')
     have hpre:∀ p∈(predTable ops.toList []).getD j [],listed.getD p false=true:=by
      intro p hp
      obtain⟨e,q1,q2,q3⟩:=pred_of h2' hp
      rcases q3 with rfl | q3
      · exact h3 e q1 q2
      · exact hcl e.on (h3 e q1 q2) p q3
     rw[g1]at hr hf
     obtain⟨st1,k1,k2⟩:=front hr fun p hp=>by
      obtain⟨q1,q2,q3,q4⟩:=g3 p hp
      have q3':ops.toList[p.1]?=some p.2:=by
       have:p.1<jc:=by omega
       rw[Nat.sub_zero,List.getElem?_take_of_lt this]at q3
       exact q3
      refine open_pair hok hhd h2' q3' q2 fun hm=>?_
      have:=hpre p.1 hm
      have hl:p.1<listed.size:=by
       have:=(List.getElem?_eq_some_iff.1 q3').1
       simp at this;omega
      simp[hl]at q4 this
      rw[q4]at this;cases this
     have hs:=sim1 ok hC rfl (hw o (List.mem_of_getElem? h2')) i k1 (rd:=rd) (n:=n) (K:=wpAnyIn (FW rd) n P .any ops Q (fuel+(ops.size-jc)) (listed.setIfInBounds j true)) (fun a' w' i'=>ih (listed.setIfInBounds j true) st1 a' w' (by
      rw[g2];simp only[List.length_append,List.length_cons]at hf ⊢;omega) (fun q hq1 hq2=>by
      rw[getD_set_ne false (show j≠q by omega)]
      exact hun q hq1 hq2) (fun q hq p hp=>by
      by_cases hjq:j=q
      · subst hjq;exact getD_set_true (hpre p hp)
      · rw[getD_set_ne false hjq]at hq
        exact getD_set_true (hcl q hq p hp)) (by simpa using hsz) (by rw[g2];exact k2) i') (Q:=Q)
     unfold wpOpIn
     rw[h2]
     simp only
     split
     · rename_i hw;rw[if_pos hw]at hs;exact hs
     · rename_i hw;rw[if_neg hw]at hs;exact⟨fun _ _=>trivial,hs⟩
theorem num_length:∀ (l:List Oper) (k:Nat),(num k l).length=l.length
 | [],_=>rfl
 | o::r,k=>by simp[num,num_length r]
theorem filt_none {n:Nat}:∀ {l:List Oper} {k:Nat},k+l.length≤n→filt (Array.replicate n false) (num k l)=num k l
 | [],_,_=>rfl
 | o::r,k,h=>by
  simp only[List.length_cons]at h
  have:=filt_none (n:=n) (l:=r) (k:=k+1) (by omega)
  unfold filt at this ⊢
  have hk:(Array.replicate n false).getD k true=false:=by
   have:k<n:=by omega
   simp[this]
  simp only[num,List.filter_cons,hk,this];simp
theorem sim_draw (ok : TabOk P T) (hC : CallOk P T cx.w0.gl C) {α : Type} {id : Nat} {ops : Array Oper} {hd : List (List Nat)} (hok : okDraw T ops.toList (predTable ops.toList []) hd 0 ops.toList = true) (hhd : sameNats hd (hidesOf T ops.toList) = true)
    {rd:Option Nat} {n:Nat} {Q:Exit→Act→World→Prop} {k:St→Option α} {x:α} (hr:runOps T C true hd ops.toList ops.toList 0 st k=some x) (hw:∀ o∈ops.toList,OpFit cx o) (i:Inv cx st a w)
    (hQ:∀ st' a' w',k st'=some x→Inv cx st' a' w'→Q .normal a' w'):(Code.region id ops true).wpIn (FW rd) n P Q a w:=by
  obtain⟨fin,h1,h2⟩:=runsL_of hr
  have e:filt (Array.replicate ops.size false) (num 0 ops.toList)=num 0 ops.toList:=filt_none (by simp)
  refine wpIn_region_any ok.mixed (sim_any ok hC hok hhd (fun a w i=>hQ fin a w h2 i) hw ops.size (Array.replicate ops.size false) st a _ ?_ ?_ (by simp) (by rw[e];exact h1) i.drew)
  · rw[e,num_length];simp
  · intro q hq
    by_cases hl:q<ops.size<;>simp[hl]at hq
theorem sim_cut (ok : TabOk P T) (hC : CallOk P T cx.w0.gl C) {α : Type} {id : Nat} {ops : Array Oper} {hd : List (List Nat)} (hok : okDraw T ops.toList (predTable ops.toList []) hd 0 ops.toList = true) (hhd : sameNats hd (hidesOf T ops.toList) = true)
    {jc:Nat} (hch:chainFrom (predTable ops.toList []) jc 0 ops.toList=true) {rd:Option Nat} {n:Nat} {Q:Exit→Act→World→Prop} {k:St→Option α} {x:α} (hr:runOps T C true hd ops.toList (ops.toList.take jc) 0 st k=some x) (hw:∀ o∈ops.toList,OpFit cx o) (i:Inv cx st a w)
    (hQ:∀ st' a' w',k st'=some x→Inv cx st' a' w'→(∃ l,runsL T C hd ops.toList l st st')→wpListIn (FW rd) n P ops Q (ops.toList.drop jc) a' w'):(Code.region id ops true).wpIn (FW rd) n P Q a w:=by
  obtain⟨fin,h1,h2⟩:=runsL_of hr
  by_cases hjc:jc≤ops.size
  · have e:filt (Array.replicate ops.size false) (num 0 (ops.toList.take jc))=num 0 (ops.toList.take jc):=filt_none (by simp;omega)
    have hlen:(num 0 (ops.toList.take jc)).length=jc:=by rw[num_length];simp;omega
    have main:=sim_anyT ok hC hok hhd hjc hch (rd:=rd) (n:=n) (Q:=Q) (fun a w i=>hQ fin a w h2 i ⟨_,h1⟩) hw jc (Array.replicate ops.size false) st a { w with drawn:=w.drawn+1 } (by rw[e,hlen]) (fun q _ hq=>by simp[hq]) (by
     intro q hq
     by_cases hl:q<ops.size<;>simp[hl]at hq) (by simp) (by rw[e];exact h1) i.drew
    rw[show jc+(ops.size-jc)=ops.size from by omega]at main
    exact wpIn_region_any ok.mixed main
  · have et:ops.toList.take jc=ops.toList:=List.take_of_length_le (by simp;omega)
    have ed:ops.toList.drop jc=[]:=List.drop_eq_nil_iff.2 (by simp;omega)
    have e:filt (Array.replicate ops.size false) (num 0 ops.toList)=num 0 ops.toList:=filt_none (by simp)
    rw[et]at h1
    refine wpIn_region_any ok.mixed (sim_any ok hC hok hhd (fun a w i=>by have:=hQ fin a w h2 i ⟨_,h1⟩;rw[ed]at this;exact this) hw ops.size (Array.replicate ops.size false) st a _ ?_ ?_ (by simp) (by rw[e];exact h1) i.drew)
    · rw[e,num_length];simp
    · intro q hq
      by_cases hl:q<ops.size<;>simp[hl]at hq
theorem yCut_chain {ys:List Nat} {ops:List Oper} {j:Nat} (h:yCut ys ops=some j):chainFrom (predTable ops []) j 0 ops=true:=by
 unfold yCut at h
 split at h
 · cases h
 · split at h
   · rename_i j' _
     cases hc:chainFrom (predTable ops []) j' 0 ops with
     | false=>rw[hc]at h;cases h
     | true=>rw[hc]at h;cases h;exact hc
   · cases h
theorem sim_undrawn (ok : TabOk P T) (hC : CallOk P T cx.w0.gl C) {α : Type} {id : Nat} {ops : Array Oper} {hd : List (List Nat)} (hn : NoLog cx.hp0) {rd : Option Nat} {n : Nat} {Q : Exit → Act → World → Prop} {k : St → Option α} {x : α} (hr : runOps T C false hd ops.toList ops.toList 0 st k = some x)
    (hw:∀ o∈ops.toList,OpFit cx o) (i:Inv cx st a w)
    (hQ:∀ st' a' w',k st'=some x→Inv cx st' a' w'→Q .normal a' w'):(Code.region id ops false).wpIn (FW rd) n P Q a w :=
  wpIn_region_list (sim_text ok hC hn hQ ops.toList 0 st a w hw hr i)
end
end Go.Skm
namespace Go.Skm
theorem rens_get (s d:Nat):∀ (l:List AV) (i:Nat),(AV.rens s d l)[i]?=(l[i]?).map (AV.ren s d)
 | [],i=>by simp[AV.rens]
 | v::r,0=>by simp[AV.rens]
 | v::r,i+1=>by simp[AV.rens,rens_get s d r i]
theorem rens_length (s d:Nat):∀ (l:List AV),(AV.rens s d l).length=l.length
 | []=>rfl
 | v::r=>by simp[AV.rens,rens_length s d r]
theorem ren_leaf (s d:Nat) (v:AV):(AV.ren s d v).leaf=v.leaf:=by
 cases v<;>simp[AV.ren,AV.leaf]
theorem renS_ne {s d x:Nat} (h:x≠s):renS s d x=x:=by
 have:(x==s)=false:=by simpa using h
 simp[renS,this]
theorem look_renHeap {s d:Nat} (hne:s≠d) (x:Nat):∀ {hp:Heap},look hp d=none→look (renHeap s d hp) x=if x=d then(look hp s).map (Blk.ren s d) else if x=s then none else(look hp x).map (Blk.ren s d)
 | [],_=>by simp[renHeap,look]
 | (k,b)::r,h=>by
  have hk:k≠d:=by
   rintro rfl;simp[look]at h
  have hk':(k==d)=false:=by simpa using hk
  have hr:look r d=none:=by simpa [look,hk'] using h
  have ih:=look_renHeap hne x hr
  simp only[renHeap,look]
  by_cases hks:k=s
  · subst hks
    have e1:renS k d k=d:=by simp[renS]
    rw[e1]
    by_cases hx:x=d
    · subst hx;simp
    · have e2:(d==x)=false:=by simpa using fun e=>hx e.symm
      rw[e2,if_neg hx]
      simp only[cond_false]
      rw[ih,if_neg hx]
      by_cases hxs:x=k
      · rw[if_pos hxs,if_pos hxs]
      · rw[if_neg hxs,if_neg hxs]
        have e3:(k==x)=false:=by simpa using fun e=>hxs e.symm
        rw[e3];rfl
  · have e1:renS s d k=k:=renS_ne hks
    rw[e1]
    by_cases hx:x=k
    · subst hx
      simp[hk,hks]
    · have e2:(k==x)=false:=by simpa using fun e=>hx e.symm
      rw[e2]
      simp only[cond_false]
      rw[ih]
      have e3:(k==s)=false:=by simpa using hks
      rw[e3];rfl
theorem AR.renamed {w : World} {M : Nat → Prop} {β β' : Nat → Option (Nat × Nat)} {h h' : Nat → Option Blk} {s d : Nat} (hh : ∀ x blk,h x = some blk → h' (renS s d x) = some (blk.ren s d) ∧ β' (renS s d x) = β x)
    {v:AV} {c:Value} (hv:AR w M β h v c):AR w M β' h' (v.ren s d) c:=by
  induction hv with
  | undef c=>exact .undef c
  | p v c hv=>exact .p v c hv
  | slice x off len a ks xs b o cap h1 hl hb hcap hr=>exact .slice _ off len a ks xs b o cap (hh x _ h1).1 hl ((hh x _ h1).2.trans hb) hcap hr
  | sliceE x off a ks xs base h1 hl=>exact .sliceE _ off a ks xs base (hh x _ h1).1 hl
  | bslice x off len cs b o cap h1 hl hb hcap=>exact .bslice _ off len (AV.rens s d cs) b o cap (hh x _ h1).1 (by rw[rens_length];exact hl) ((hh x _ h1).2.trans hb) hcap
  | bsliceE x off cs base h1 hl=>exact .bsliceE _ off (AV.rens s d cs) base (hh x _ h1).1 (by rw[rens_length];exact hl)
  | ptrB x off cs b o h1 hb=>exact .ptrB _ off (AV.rens s d cs) b o (hh x _ h1).1 ((hh x _ h1).2.trans hb)
  | ptrA x idx off a ks xs b o h1 hi hb=>exact .ptrA _ idx off a ks xs b o (hh x _ h1).1 hi ((hh x _ h1).2.trans hb)
  | lptr a ks x off b o f hM hx hc hv=>exact .lptr a ks x off b o f hM hx hc hv
  | fn f cs vs hn _ ih =>
   refine .fn f _ vs (by rw[rens_length];exact hn) fun i c hi=>?_
   rw[rens_get]at hi
   cases hx:cs[i]? with
   | none=>rw[hx]at hi;cases hi
   | some x=>rw[hx]at hi;cases hi;exact ih i x hx
  | agg cs vs hn hl _ ih =>
   refine .agg _ vs (by rw[rens_length];exact hn) (fun c hc=>?_) fun i c hi=>?_
   · obtain⟨i,hi⟩:=List.mem_iff_getElem?.1 hc
     rw[rens_get]at hi
     cases hx:cs[i]? with
     | none=>rw[hx]at hi;cases hi
     | some x=>rw[hx]at hi;cases hi;rw[ren_leaf];exact hl x (List.mem_of_getElem? hx)
   · rw[rens_get]at hi
     cases hx:cs[i]? with
     | none=>rw[hx]at hi;cases hi
     | some x=>rw[hx]at hi;cases hi;exact ih i x hx
  | tup cs vs hn _ ih =>
   refine .tup _ vs (by rw[rens_length];exact hn) fun i c hi=>?_
   rw[rens_get]at hi
   cases hx:cs[i]? with
   | none=>rw[hx]at hi;cases hi
   | some x=>rw[hx]at hi;cases hi;exact ih i x hx
  | yld l=>exact .yld l
  | ptrT x off t c0 c1 b h1 hb=>exact .ptrT _ off t (c0.ren s d) (c1.ren s d) b (hh x _ h1).1 ((hh x _ h1).2.trans hb)
  | ptrM x t es b o h1 hb=>exact .ptrM _ t es b o (hh x _ h1).1 ((hh x _ h1).2.trans hb)
  | ptrR x e xs b cap h1 hb hcap h0 hr=>exact .ptrR _ e xs b cap (hh x _ h1).1 ((hh x _ h1).2.trans hb) hcap h0 hr
  | ptrRE x e h1=>exact .ptrRE _ e (hh x _ h1).1
section
variable {P:Program} {T:Tab} {w0:Base} {Pr M0 M:Nat→Prop} {β β0:Nat→Option (Nat × Nat)} {hp0:Heap} {st st':St} {a:Act} {w:World}
theorem Rel.rename (r : Rel w0 Pr M0 M β st a w) {s d : Nat} (hne : s ≠ d) (hd : look st.heap d = none) (hs : s < argSite) :
    Rel w0 Pr M0 M (fun x=>if x=d then β s else β x) { env:=AV.rens s d st.env,heap:=renHeap s d st.heap } a w:=by
  have hlk:=fun x=>look_renHeap (s:=s) (d:=d) hne x hd
  have hh:∀ x blk,look st.heap x=some blk→look (renHeap s d st.heap) (renS s d x)=some (blk.ren s d)∧(if renS s d x=d then β s else β (renS s d x))=β x:=by
   intro x blk hx
   have hxd:x≠d:=by rintro rfl;rw[hd]at hx;cases hx
   by_cases hxs:x=s
   · subst hxs
     have e:renS x d x=d:=by simp[renS]
     rw[e,hlk,if_pos rfl,hx]
     exact⟨rfl,by simp⟩
   · have e:renS s d x=x:=renS_ne hxs
     rw[e,hlk,if_neg hxd,if_neg hxs,hx]
     exact⟨rfl,by simp[hxd]⟩
  have key:∀ {v:AV} {c:Value},AR w M β (look st.heap) v c→AR w M (fun x=>if x=d then β s else β x) (look (renHeap s d st.heap)) (v.ren s d) c:=fun h=>h.renamed hh
  have from_:∀ x blk',look (renHeap s d st.heap) x=some blk'→∃ y blk,look st.heap y=some blk∧blk'=blk.ren s d∧x=renS s d y∧(if x=d then β s else β x)=β y:=by
   intro x blk' hx
   rw[hlk]at hx
   by_cases hxd:x=d
   · rw[if_pos hxd]at hx
     cases hy:look st.heap s with
     | none=>rw[hy]at hx;cases hx
     | some b=>rw[hy]at hx;cases hx;exact⟨s,b,hy,rfl,by simp[renS,hxd],by simp[hxd]⟩
   · rw[if_neg hxd]at hx
     by_cases hxs:x=s
     · rw[if_pos hxs]at hx;cases hx
     · rw[if_neg hxs]at hx
       cases hy:look st.heap x with
       | none=>rw[hy]at hx;cases hx
       | some b=>rw[hy]at hx;cases hx;exact⟨x,b,hy,rfl,(renS_ne hxs).symm,by simp[hxd]⟩
  refine⟨by simp only[rens_length];exact r.tsize,fun t v hv=>?_,fun x blk' hx=>?_,fun x b o hx hb=>?_,fun x x' b o o' hx hx' hb hb'=>?_,r.msub,r.mnew,r.mold,r.keep,r.room,r.size,r.os,r.tape,r.output,r.glob⟩
  · simp only[rens_get]at hv
    cases he:st.env[t]? with
    | none=>rw[he]at hv;cases hv
    | some u=>rw[he]at hv;cases hv;exact key (r.env t u he)
  · obtain⟨y,blk,g1,rfl,rfl,g4⟩:=from_ x blk' hx
    cases r.heap y blk g1 with
    | box cs b o C e fr k1 k2 k3 k4 k5 k6 =>
     refine .box _ b o C e fr (g4.trans k1) k2 (by rw[rens_length];exact k3) k4 (fun c hc=>?_) fun j c hj=>?_
     · obtain⟨i,hi⟩:=List.mem_iff_getElem?.1 hc
       rw[rens_get]at hi
       cases hx:cs[i]? with
       | none=>rw[hx]at hi;cases hi
       | some x=>rw[hx]at hi;cases hi;rw[ren_leaf];exact k5 x (List.mem_of_getElem? hx)
     · rw[rens_get]at hj
       cases hx:cs[j]? with
       | none=>rw[hx]at hj;cases hj
       | some x=>rw[hx]at hj;cases hj;exact key (k6 j x hx)
    | arrE a ks=>exact .arrE a ks
    | log on ys=>exact .log on ys
    | arr a ks xs b o C e fr k1 k2 k3 k4 k5 k6=>exact .arr a ks xs b o C e fr (g4.trans k1) k2 k3 k4 k5 k6
    | tb t c0 c1 b C fr k1 k2 k3 k4 k5 k6 k7 k8=>exact .tb t _ _ b C fr (g4.trans k1) k2 k3 k4 (by rw[ren_leaf];exact k5) (by rw[ren_leaf];exact k6) (key k7) (key k8)
    | mp t es b o E k k1 k2 k3 k4=>exact .mp t es b o E k (g4.trans k1) k2 k3 k4
    | brE e=>exact .brE e
    | br e xs b C fr k1 k2 k3 k4 g5 g6=>exact .br e xs b C fr (g4.trans k1) k2 k3 k4 g5 g6
  · obtain⟨blk',hx⟩:=Option.isSome_iff_exists.1 hx
    obtain⟨y,blk,g1,_,g3,g4⟩:=from_ x blk' hx
    have hb:(if x=d then β s else β x)=some (b,o):=hb
    rw[g4]at hb
    obtain⟨o1,o2,o3⟩:=r.own y b o (by rw[g1];rfl) hb
    refine⟨o1,o2,o3.1,o3.2.imp id fun o3=>?_⟩
    have hys:y≠s:=by omega
    have:renS s d y=y:=renS_ne hys
    rw[g3,this];exact o3
  · obtain⟨blk1,hx⟩:=Option.isSome_iff_exists.1 hx
    obtain⟨blk2,hx'⟩:=Option.isSome_iff_exists.1 hx'
    obtain⟨y,b1,g1,_,g3,g4⟩:=from_ x blk1 hx
    obtain⟨y',b2,g1',_,g3',g4'⟩:=from_ x' blk2 hx'
    have hb:(if x=d then β s else β x)=some (b,o):=hb
    have hb':(if x'=d then β s else β x')=some (b,o'):=hb'
    rw[g4]at hb
    rw[g4']at hb'
    rw[g3,g3',r.inj y y' b o o' (by rw[g1];rfl) (by rw[g1'];rfl) hb hb']
theorem Blk.ren_like (s d:Nat) (b:Blk):Like b (b.ren s d):=by
 cases b with
 | box cs=>simp[Blk.ren,Like,rens_length]
 | arr=>exact Like.refl _
 | log=>exact Like.refl _
 | tb=>exact rfl
 | mp=>exact Like.refl _
 | br=>exact Like.refl _
theorem rename_owned {β:Nat→Option (Nat × Nat)} {hp:Heap} {s d:Nat} (hne:s≠d) (hd:look hp d=none) {b:Nat} (h:Owned (fun x=>if x=d then β s else β x) (renHeap s d hp) b):Owned β hp b:=by
 obtain⟨x,o,hx,hb⟩:=h
 rw[look_renHeap hne x hd]at hx
 by_cases hxd:x=d
 · rw[if_pos hxd]at hx
   simp only[hxd,if_true]at hb
   exact⟨s,o,by simpa using hx,hb⟩
 · rw[if_neg hxd]at hx
   simp only[if_neg hxd]at hb
   by_cases hxs:x=s
   · rw[if_pos hxs]at hx;cases hx
   · rw[if_neg hxs]at hx
     exact⟨x,o,by simpa using hx,hb⟩
theorem Inv.rehome {cx:Cx} (i:Inv cx st a w) {s d:Nat} (hne:s≠d) (hs:s<argSite) (hd:d<argSite):Inv cx (st.rehome s d) a w:=by
 have i1:=i.strike [d]
 have hn:look (st.strike [d]).heap d=none:=by rw[look_strike];simp
 unfold St.rehome
 generalize st.strike [d]=st1 at i1 hn
 obtain⟨M,β,L,ds,r,e1,e2,e3,fx⟩:=i1
 refine⟨M,_,L,ds,r.rename hne hn hs,fun x hx=>?_,fun x hx blk' hb=>?_,e3,fx.less (fun p hp=>rfl) fun _ ho=>rename_owned hne hn ho⟩
 · have:x≠d:=by omega
   simp only[if_neg this];exact e1 x hx
 · have h1:x≠d:=by omega
   have h2:x≠s:=by omega
   have hb':look (renHeap s d st1.heap) x=some blk':=hb
   rw[look_renHeap hne x hn,if_neg h1,if_neg h2]at hb'
   cases hy:look st1.heap x with
   | none=>rw[hy]at hb';cases hb'
   | some b =>
    rw[hy]at hb';cases hb'
    obtain⟨b0,g1,g2⟩:=e2 x hx b hy
    exact⟨b0,g1,g2.trans (Blk.ren_like s d b)⟩
theorem Inv.rehomes {cx:Cx} (nv:Nat) (hs:List Nat) (hnv:nv≤argSite):∀ (l:List Oper) {st:St},Inv cx st a w→Inv cx (Skm.rehomes nv hs l st) a w
 | [],st,i=>i
 | o::r,st,i=>by
  simp only[Skm.rehomes]
  split
  · rename_i d _ _
    split
    · rename_i s _ _ _ _
      cases hc:(Nat.ble nv s||(memN d hs&&!(s==d)))&&(Nat.blt d nv&&Nat.blt s 100000) with
      | false=>exact Inv.rehomes nv hs hnv r i
      | true =>
       simp only[Bool.and_eq_true]at hc
       have h2:d<nv:=Nat.le_of_ble_eq_true hc.2.1
       have h1:s≠d:=by
        intro e
        rcases(by simpa only[Bool.or_eq_true] using hc.1:Nat.ble nv s=true∨(memN d hs&&!(s==d))=true) with h | h
        · exact absurd (Nat.le_of_ble_eq_true h) (Nat.not_le_of_lt (by rw[e];exact h2))
        · simp[e]at h
       have h3:s<100000:=Nat.le_of_ble_eq_true hc.2.2
       have ea:argSite=100000:=rfl
       exact Inv.rehomes nv hs hnv r (i.rehome h1 h3 (Nat.lt_of_lt_of_le h2 hnv))
    · exact Inv.rehomes nv hs hnv r i
  · exact Inv.rehomes nv hs hnv r i
theorem Inv.frehomes {cx:Cx} (hs:List Nat):∀ (l:List Oper) {st:St},Inv cx st a w→Inv cx (Skm.frehomes hs l st) a w
 | [],st,i=>i
 | o::r,st,i=>by
  simp only[Skm.frehomes]
  split
  · rename_i x _
    split
    · rename_i s _ _ _ _
      cases hc:memN x hs&&(Nat.blt s 5000&&Nat.blt x 5000) with
      | false=>exact Inv.frehomes hs r i
      | true =>
       simp only[Bool.and_eq_true]at hc
       have h1:s<5000:=Nat.le_of_ble_eq_true hc.2.1
       have h2:x<5000:=Nat.le_of_ble_eq_true hc.2.2
       have k:∀ s y:Nat,s<5000→y<5000→s≠5000+y∧s<argSite∧5000+y<argSite:=fun s y h1 h2=>by
        have ea:argSite=100000:=rfl
        omega
       obtain⟨k1,k2,k3⟩:=k s x h1 h2
       exact Inv.frehomes hs r (i.rehome k1 k2 k3)
    · exact Inv.frehomes hs r i
  · split
    · rename_i d _
      split
      · cases hc:memN d hs&&Nat.blt d 5000 with
        | false=>exact Inv.frehomes hs r i
        | true =>
         simp only[Bool.and_eq_true]at hc
         have h2:d<5000:=Nat.le_of_ble_eq_true hc.2
         have ea:argSite=100000:=rfl
         have k:∀ y:Nat,y<5000→y≠7990∧y<argSite∧7990<argSite:=fun y h=>by
          have ea:argSite=100000:=rfl
          omega
         obtain⟨k1,k2,k3⟩:=k d h2
         exact Inv.frehomes hs r (i.rehome k1 k2 k3)
      · exact Inv.frehomes hs r i
    · exact Inv.frehomes hs r i
  · exact Inv.frehomes hs r i
theorem Inv.freeze1 {cx : Cx} (i : Inv cx st a w) {d : Nat} {x : PV} {ss : List Nat} (hd : deep (look st.heap) (st.env.getD d .undef) = some (x,ss)) (hf : frzOk ss = true) :
    Inv cx { (st.strike ss) with env:=(st.strike ss).env.set d (.p x) } a w:=by
  by_cases hlt:d<st.env.length
  · obtain⟨M,β,L,ds,r,i1,i2,i3,fx⟩:=i
    have hv:st.env[d]?=some (st.env.getD d .undef):=by rw[List.getD_eq_getElem?_getD,List.getElem?_eq_getElem hlt];rfl
    obtain⟨g1,g2⟩:=deep_ok (fun s b h=>r.heap s b h) (fun s b h=>h) hd (r.env d _ hv)
    have r1:=r.rebase.freeze [] ss hf g2
    rw[List.nil_append]at r1
    have r2:Rel _ _ _ (Mplus M β ss) β { (st.strike ss) with env:=(st.strike ss).env.set d (.p x) } a w :=
     ⟨by simpa using r1.tsize,fun t v h=>by
       simp only at h
       rw[List.getElem?_set]at h
       split at h
       · rename_i he
         split at h
         · cases h
           subst he
           exact .p _ _ g1
         · cases h
       · exact r1.env t v h,r1.heap,r1.own,r1.inj,r1.msub,r1.mnew,r1.mold,r1.keep,r1.room,r1.size,r1.os,r1.tape,r1.output,r1.glob⟩
    refine⟨Mplus M β ss,β,L,ds,r.unbase r2,i1,i2.trans (strike_like st ss),i3,fx.step r r2⟩
  · have e:st.env.getD d .undef=.undef:=by simp[List.getD,List.getElem?_eq_none (by omega:st.env.length≤d)]
    rw[e]at hd
    simp[deep,deepC,deep1]at hd
theorem Inv.freezes {cx:Cx} (ts:List Nat):∀ (l:List Oper) {st:St},Inv cx st a w→Inv cx (Skm.freezes ts l st) a w
 | [],st,i=>i
 | o::r,st,i=>by
  simp only[Skm.freezes]
  split
  · cases hm:frzSlot ts _ with
    | none=>exact Inv.freezes ts r i
    | some x =>
     simp only[]
     split
     · rename_i v ss hd
       cases hf:frzOk ss with
       | false=>exact Inv.freezes ts r i
       | true=>exact Inv.freezes ts r (i.freeze1 hd hf)
     · exact Inv.freezes ts r i
  · exact Inv.freezes ts r i
theorem Inv.settle {cx:Cx} {F:FCfg} (i:Inv cx st a w) (hnv:F.nvars≤argSite) (l:List Oper):Inv cx (Skm.settle F l st) a w:=by
 unfold Skm.settle
 split
 · exact(i.rehomes _ _ hnv l).freezes _ l
 · exact((i.rehomes _ _ hnv l).frehomes _ l).freezes _ l
theorem keepEnv_get {live:List Nat}:∀ (l:List AV) (k i:Nat) (v:AV),(keepEnv live k l)[i]?=some v→v=.undef∨l[i]?=some v
 | [],k,i,v,h=>by simp[keepEnv]at h
 | u::r,k,0,v,h=>by
  simp only[keepEnv,List.getElem?_cons_zero,Option.some.injEq]at h
  cases hm:memN k live with
  | true=>rw[hm]at h;right;simpa using h
  | false=>rw[hm]at h;left;simpa using h.symm
 | u::r,k,i+1,v,h=>by
  simp only[keepEnv,List.getElem?_cons_succ]at h
  simpa using keepEnv_get r (k+1) i v h
theorem keepEnv_length {live:List Nat}:∀ (l:List AV) (k:Nat),(keepEnv live k l).length=l.length
 | [],_=>rfl
 | u::r,k=>by simp[keepEnv,keepEnv_length r]
theorem Inv.forget {cx:Cx} (i:Inv cx st a w) (live sites:List Nat):Inv cx (st.forget live sites) a w:=by
 obtain⟨M,β,L,ds,r,e1,e2,e3,fx⟩:=i
 exact Inv.strike ⟨M,β,L,ds,r.lessEnv (keepEnv_length _ _) (fun t v h=>keepEnv_get _ _ _ _ h),e1,e2,e3,fx⟩ _
theorem Inv.forgetAt {cx:Cx} (i:Inv cx st a w) (F:FCfg) (c:Code):Inv cx (Skm.forgetAt F c st) a w:=by
 unfold Skm.forgetAt
 split
 · exact i
 · split
   · exact i
   · exact i.forget _ _
theorem Inv.relog {cx : Cx} (i : Inv cx st a w) {α : Type} {b : Option Blk} (hb : ∀ on xs,b = some (.log on xs) → ∃ ys,look cx.hp0 argSite = some (.log on ys)) {k : St → Option α} {x : α} (h : Skm.relog b st k = some x) : ∃ st',k st' = some x ∧ Inv cx st' a w ∧
    ∀ on xs,look st'.heap argSite=some (.log on xs)→b=some (.log on xs):=by
  unfold Skm.relog at h
  split at h
  · rename_i on0 xs0 h0
    split at h
    · rename_i on xs
      refine⟨_,h,?_,fun on' xs' he=>?_⟩
      · obtain⟨ys,hy⟩:=hb on xs rfl
        obtain⟨M,β,L,ds,r,e1,e2,e3,fx⟩:=i
        have hlk:∀ s,look (put st.heap argSite (.log on xs)) s=if s=argSite then some (.log on xs) else look st.heap s:=fun s=>look_put _ _ _ _
        have hon:on=on0:=by
         obtain⟨b0,g1,g2⟩:=e2 argSite (Nat.le_refl _) _ h0
         rw[hy]at g1;cases g1
         exact g2
        have key:∀ {v:AV} {c:Value},AR w M β (look st.heap) v c→AR w M β (look (put st.heap argSite (.log on xs))) v c:=by
         intro v c hv
         refine hv.mono (fun b hb=>⟨hb,rfl⟩) fun s blk _ hs=>?_
         by_cases e:s=argSite
         · subst e
           rw[h0]at hs;cases hs
           exact⟨.log on xs,by rw[hlk,if_pos rfl],hon.symm,rfl,fun _ _ _ _ h=>h⟩
         · exact⟨blk,by rw[hlk,if_neg e];exact hs,Like.refl _,rfl,fun _ _ _ _ h=>h⟩
        have live:∀ s,(look (put st.heap argSite (.log on xs)) s).isSome=true→(look st.heap s).isSome=true:=by
         intro s hs
         rw[hlk]at hs
         by_cases e:s=argSite
         · subst e;rw[h0];rfl
         · rw[if_neg e]at hs;exact hs
        refine⟨M,β,L,ds,⟨r.tsize,fun t v hv=>key (r.env t v hv),fun s blk hs=>?_,fun s b o hs hb=>r.own s b o (live s hs) hb,fun s s' b o o' hs hs'=>r.inj s s' b o o' (live s hs) (live s' hs'),r.msub,r.mnew,r.mold,r.keep,r.room,r.size,r.os,r.tape,r.output,r.glob⟩,e1,fun s hs blk hb=>?_,e3,fx.less (fun p hp=>rfl) fun _ ⟨s,o,hs,hb⟩=>⟨s,o,live s hs,hb⟩⟩
        · have hs:look (put st.heap argSite (.log on xs)) s=some blk:=hs
          rw[hlk]at hs
          by_cases e:s=argSite
          · rw[if_pos e]at hs;cases hs;exact .log _ _
          · rw[if_neg e]at hs
            cases r.heap s blk hs with
            | box cs b o C e fr k1 k2 k3 k4 k5 k6=>exact .box cs b o C e fr k1 k2 k3 k4 k5 fun j c hj=>key (k6 j c hj)
            | arrE a ks=>exact .arrE a ks
            | log on ys=>exact .log on ys
            | arr a ks xs b o C e fr k1 k2 k3 k4 k5 k6=>exact .arr a ks xs b o C e fr k1 k2 k3 k4 k5 k6
            | tb t c0 c1 b C fr k1 k2 k3 k4 k5 k6 k7 k8=>exact .tb t _ _ b C fr k1 k2 k3 k4 k5 k6 (key k7) (key k8)
            | mp t es b o E k k1 k2 k3 k4=>exact .mp t es b o E k k1 k2 k3 k4
            | brE e=>exact .brE e
            | br e xs b C fr k1 k2 k3 k4 g5 g6=>exact .br e xs b C fr k1 k2 k3 k4 g5 g6
        · have hb:look (put st.heap argSite (.log on xs)) s=some blk:=hb
          rw[hlk]at hb
          by_cases e:s=argSite
          · rw[if_pos e]at hb;cases hb;subst e;exact⟨_,hy,rfl⟩
          · rw[if_neg e]at hb;exact e2 s hs blk hb
      · have he:look (put st.heap argSite (.log on xs)) argSite=_:=he
        rw[look_put,if_pos rfl]at he
        cases he;rfl
    · cases h
  · rename_i hno
    exact⟨st,h,i,fun on xs he=>absurd he (hno on xs)⟩
def Ex.toExit:Ex→Exit
 | .normal=>.normal
 | .exit id=>.exit id
 | .ret=>.ret
end
end Go.Skm
