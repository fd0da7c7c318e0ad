import Derived.Test.YtfmoopdnamdobaaDoorSkmC
import Derived.WideKeyRuns
namespace Go.Skm
theorem XY:IQ #[] 0 0:=⟨rfl,by simp,by simp,rfl,by simp⟩
theorem EO {E:Array MapEntry} {k n:Nat} (h:IQ E k n) (key val:Value):IQ (E.push { key,val,born:=k }) (k+1) (n+1):=by
 obtain⟨h1,h2,h3,h4,h5⟩:=h
 refine⟨by simp[h1],?_,?_,by omega,?_⟩
 · intro e he
   simp only[Array.toList_push,List.mem_append,List.mem_singleton]at he
   rcases he with he | rfl
   · have:=h2 e he;omega
   · simp
 · simp only[Array.toList_push,List.map_append,List.map_cons,List.map_nil]
   refine List.nodup_append.mpr ⟨h3,by simp,?_⟩
   intro x hx y hy
   simp only[List.mem_singleton]at hy
   subst hy
   obtain⟨e,he,rfl⟩:=List.mem_map.1 hx
   have:=h2 e he
   omega
 · intro i e he
   rw[Array.getElem?_push]at he
   split at he
   · rename_i hi
     cases he
     show k=i
     omega
   · exact h5 i e he
theorem NQ {E:Array MapEntry} {i:Nat} {f:MapEntry→MapEntry}:(E.modify i f).toList=E.toList.modify i f:=by simp
theorem tY {E:Array MapEntry} {k n i:Nat} (h:IQ E k n) {f:MapEntry→MapEntry} (hf:∀ e,(f e).born=e.born):IQ (E.modify i f) k n:=by
 obtain⟨h1,h2,h3,h4,h5⟩:=h
 have hm:((E.modify i f).toList.map (·.born))=E.toList.map (·.born):=by
  rw[NQ]
  apply List.ext_getElem?
  intro j
  simp only[List.getElem?_map,List.getElem?_modify]
  cases E.toList[j]? with
  | none=>rfl
  | some e=>by_cases hj:i=j<;>simp[hj,hf]
 refine⟨by simp[h1],?_,by rw[hm];exact h3,h4,fun j e he=>?_⟩
 · intro e he
   have:e.born∈(E.modify i f).toList.map (·.born):=List.mem_map.2 ⟨e,he,rfl⟩
   rw[hm]at this
   obtain⟨e',he',e1⟩:=List.mem_map.1 this
   have:=h2 e' he'
   omega
 · rw[Array.getElem?_modify]at he
   split at he
   · rename_i hij
     obtain⟨e',he',rfl⟩:=Option.map_eq_some_iff.1 he
     rw[hf];exact h5 j e' he'
   · exact h5 j e he
section
variable {P:Program} {T:Tab} {w0:Base} {Pr M0 M:Nat→Prop} {β:Nat→Option (Nat × Nat)} {st:St} {a:Act} {w:World} {d:Option Nat}
theorem Tj (_ok : bJ P T) (r : Rel w0 Pr M0 M β st a w) {t : TypeId} {x : Option AV} {c : Option Value} (hx : Qs w M β (look st.heap) x c) :
    aO P w0 Pr M0 β st a w d (BI T d t x) (do pure (.value (← Instr.makeMap t c))):=by
  unfold BI
  split
  · rename_i d kt et hu
    have hc:c=none:=by
     cases c with
     | none=>rfl
     | some _=>exact hx.elim
    subst hc
    have run:(Instr.makeMap t none).run P w=.ok (.map (some w.heap.size)) (w.alloc (.map #[] 0)):=rfl
    have hr:=r.fresh (ss:=[]) (d:=d) (blk:=.mp t []) (v:=.mref d) (c:=.map (some w.heap.size)) (w':=w.alloc (.map #[] 0)) (b:=w.heap.size) (o:=0) rfl (by simp) (by simp) rfl rfl rfl (fun k hk=>alloc_old hk) (Nat.le_refl _) (by simp) (by
     intro β' h' hb hl hk hv
     exact⟨.mp t [] w.heap.size 0 #[] 0 hb kE XY (fun i p e hi=>by simp at hi),.EF d t [] w.heap.size 0 hl hb⟩)
    exact aO.ret (nv:=.value (.map (some w.heap.size))) (by simp only[Sem.run_bind,run,qRa,Sem.run_pure]) (.inl rfl) (fun _=>hr) (fun hf=>ql hf)
  · exact aO.fail
theorem EP : ∀ {fs : List Field} {o : Nat}, rZ T o fs = true → ∀ i f, fs[i]? = some f → f.offset = o + i ∧ f.name ≠ "_" ∧ ni T f.type = some 1 ∧ ∃ k, und T f.type = some (.int k)
 | [],o,_,i,f,h=>by simp at h
 | g::fs,o,hf,i,f,h=>by
  simp only[rZ,qBa,beq_iff_eq,bne_iff_ne,ne_eq]at hf
  obtain⟨⟨h1,h2,h3⟩,h4,h5⟩:=hf
  cases i with
  | zero =>
   simp at h;subst h
   have e3:ni T g.type=some 1:=by
    have:=Nat.eq_of_beq_eq_true h3
    cases hs:ni T g.type with
    | none=>rw[hs]at this;simp at this
    | some n=>rw[hs]at this;simpa using this
   refine⟨by omega,h2,e3,?_⟩
   split at h4
   · rename_i k hk;exact⟨k,hk⟩
   · cases h4
  | succ i =>
   simp at h
   obtain⟨g1,g2⟩:=EP h5 i f h
   exact⟨by omega,g2⟩
theorem Tn (ok : bJ P T) {em : Bool} {n : Nat} {cs : Array Value} : ∀ {fs : List Field} {o : Nat},rZ T o fs = true → o + fs.length ≤ cs.size →
    (forIn fs PUnit.unit fun f _r=>do
      if f.name ≠ "_" then Instr.checkKey em (n + 1) f.type (← part f.type cs f.offset)
      pure (ForInStep.yield PUnit.unit):Sem PUnit).run P w=.ok PUnit.unit w:=by
  intro fs
  induction fs with
  | nil=>intro o _ _;simp
  | cons f fs ih =>
   intro o hf hl
   obtain⟨h1,h2,h3,h4⟩:=EP hf 0 f rfl
   simp only[List.length_cons]at hl
   have hf':rZ T (o+1) fs=true:=by
    simp only[rZ,qBa]at hf
    exact hf.2.2
   have hpart:∃ v,(part f.type cs f.offset).run P w=.ok v w∧(Instr.checkKey em (n+1) f.type v).run P w=.ok () w:=by
    have hcs:cs[f.offset]?=some cs[f.offset]! := by
     rw[getElem!_pos cs f.offset (by omega),qAd]
    refine⟨cs[f.offset]!,?_,?_⟩
    · obtain⟨k,hu⟩:=h4
      simp[part,isAgg,aX (ok.und hu),hcs]
    · obtain⟨k,hu⟩:=h4
      simp[Instr.checkKey,aX (ok.und hu)]
   obtain⟨v,p1,p2⟩:=hpart
   simp only[List.forIn_cons,Sem.run_bind,ne_eq,h2,not_false_eq_true,if_true,p1,qRa,p2,Sem.run_pure]
   exact ih hf' (by omega)
theorem xU (ok : bJ P T) {t : TypeId} (hk : jU T t = true) {cs : Array Value} {fs : Array Field} (hu : und T t = some (.struct fs)) (hl : fs.size ≤ cs.size) {em : Bool} {n : Nat} :
    (Instr.checkKey em (n+2) t (.agg cs)).run P w=.ok () w:=by
  unfold jU at hk
  rw[hu]at hk
  simp only[qBa]at hk
  have:=Tn (P:=P) (w:=w) ok (em:=em) (n:=n) (cs:=cs) hk.2 (by simpa using hl)
  rw[Instr.checkKey]
  simp only[Sem.run_bind,aX (ok.und hu),qRa,← Array.forIn_toList,this,Sem.run_pure]
theorem Rel.writeM (r : Rel w0 Pr M0 M β st a w) {s b : Nat} {t : TypeId} {es es' : List (PV × PV)} {o : Nat} {w' : World} {E E' : Array MapEntry} {k k' : Nat}
    (hs:look st.heap s=some (.mp t es)) (hb:β s=some (b,o)) (hw:w.heap[b]?=some (.map E k)) (hw':w'.heap=w.heap.setIfInBounds b (.map E' k')) (hos:w'.os=w.os) (htp:w'.tape=w.tape) (hop:w'.output=w.output)
    (hn:IQ E' k' es'.length) (hB:(∀ (v:PV) (c:Value),VR w M v c→VR w' M v c)→∀ (i:Nat) (p:PV × PV) (e:MapEntry),es'[i]?=some p→E'[i]?=some e→VR w' M p.1 e.key∧VR w' M p.2 e.val) :
    Rel w0 Pr M0 M β { st with heap:=put st.heap s (.mp t es') } a w':=by
  have hi:(look st.heap s).isSome=true:=by rw[hs];rfl
  obtain⟨o1,o2,o3⟩:=r.own s b o hi hb
  have hlk:look (put st.heap s (.mp t es'))=fun x=>if x=s then some (.mp t es') else look st.heap x:=funext fun x=>aZ _ _ _ _
  have hsz:w'.heap.size=w.heap.size:=by rw[hw'];simp
  have hne:∀ b',b'≠b→w'.heap[b']?=w.heap[b']?:=fun b' h=>by rw[hw',qAe (fun e=>h e.symm)]
  have hself:w'.heap[b]?=some (.map E' k'):=by rw[hw'];simp[o2]
  have hM:∀ b',M b'→M b'∧w'.heap[b']?=w.heap[b']?:=fun b' h=>⟨h,hne b' fun e=>o1 (e▸h)⟩
  have hroom:∀ b' n,Room w b' n→Room w' b' n:=by
   intro b' n hr
   by_cases h:b'=b
   · subst h
     obtain⟨C1,e1,Ug,h1,h2,h3⟩:=hr
     rw[hw]at h1;cases h1
   · exact hr.of_block (hne b' h)
  have key:∀ (v:AV) (c:Value),AR w M β (look st.heap) v c→AR w' M β (fun x=>if x=s then some (.mp t es') else look st.heap x) v c:=by
   intro v c h
   refine h.mono hM fun s' b' _ h1=>?_
   by_cases h2:s'=s
   · subst h2;rw[hs]at h1;cases h1
     exact⟨.mp t es',by simp,rfl,rfl,fun b o n _ hr=>hroom b n hr⟩
   · exact⟨b',by simp only[if_neg h2];exact h1,Like.refl _,rfl,fun b o n _ hr=>hroom b n hr⟩
  refine⟨r.lC,fun t v h=>by rw[hlk];exact key _ _ (r.env t v h),?_,?_,?_,fun b' h=>by rw[hsz];exact r.fB b' h,r.jQ,r.oD,?_,fun b' n h1 h2 h3=>hroom b' n (r.room b' n h1 h2 h3),by rw[hsz];exact r.size,hos.trans r.os,htp.trans r.tape,hop.trans r.output,fun p hp=>⟨(hM _ (r.glob p hp).1).1,(hM _ (r.glob p hp).1).2.trans (r.glob p hp).2⟩⟩
  · intro s' b' h1
    show BR w' M β (look (put st.heap s (.mp t es'))) s' b'
    by_cases h2:s'=s
    · subst h2
      simp only[hlk,if_true,qOa]at h1;subst h1
      exact .mp t es' b o E' k' hb hself hn (hB fun v c h=>h.mono hM)
    · simp only[hlk,if_neg h2]at h1
      have hi':(look st.heap s').isSome=true:=by rw[h1];rfl
      rw[hlk]
      cases r.heap s' b' h1 with
      | box cs b1 o1 C1 e1 Ug g1 g2 g3 g4 g5 g6 =>
       exact .box _ b1 o1 C1 e1 Ug g1 (by rw[hne b1 fun e=>h2 (r.inj s' s b _ _ hi' hi (e▸g1) hb)];exact g2) g3 g4 g5 fun j c hc=>key _ _ (g6 j c hc)
      | gY a ks=>exact .gY a ks
      | log on ys=>exact .log on ys
      | arr a ks xs b1 o1 C1 e1 Ug g1 g2 g3 g4 g5 g6 =>
       exact .arr a ks xs b1 o1 C1 e1 Ug g1 (by rw[hne b1 fun e=>h2 (r.inj s' s b _ _ hi' hi (e▸g1) hb)];exact g2) g3 g4 g5 fun i x j c hx hc=>(g6 i x j c hx hc).mono hM
      | tb t c0 c1 b1 C1 Ug g1 g2 g3 g4 g5 g6 g7 g8 =>
       exact .tb t c0 c1 b1 C1 Ug g1 (by rw[hne b1 fun e=>h2 (r.inj s' s b _ _ hi' hi (e▸g1) hb)];exact g2) g3 g4 g5 g6 (key _ _ g7) (key _ _ g8)
      | mp t es b1 o1 E k g1 g2 g3 g4 =>
       exact .mp t es b1 o1 E k g1 (by rw[hne b1 fun e=>h2 (r.inj s' s b _ _ hi' hi (e▸g1) hb)];exact g2) g3 fun i p e hi he=>⟨(g4 i p e hi he).1.mono hM,(g4 i p e hi he).2.mono hM⟩
      | EH e=>exact .EH e
      | br e xs b1 C1 fr g1 g2 g3 g4 g5 g6=>exact .br e xs b1 C1 fr g1 (by rw[hne b1 fun e=>h2 (r.inj s' s b _ _ hi' hi (e▸g1) hb)];exact g2) g3 g4 g5 g6
  · intro s' b' o' h1 h2
    rw[hsz]
    by_cases h3:s'=s
    · subst h3;exact r.own s' b' o' hi h2
    · simp only[hlk,if_neg h3]at h1;exact r.own s' b' o' h1 h2
  · intro s' s'' b' o1 o2 h1 h2 h3 h4
    have hx:∀ x,(look (put st.heap s (.mp t es')) x).isSome=true→(look st.heap x).isSome=true:=by
     intro x hx
     by_cases h:x=s
     · subst h;exact hi
     · simpa only[hlk,if_neg h] using hx
    exact r.inj s' s'' b' o1 o2 (hx _ h1) (hx _ h2) h3 h4
  · intro b' h1 h2
    rw[hne b' ?_,r.keep b' h1 h2]
    rintro rfl
    rcases o3.1 with h | h
    · omega
    · exact h2 h
theorem vU (ok : bJ P T) {kt : TypeId} {fs : Array Field} (hk : BD T kt = true) (hu : und T kt = some (.struct fs)) {kc : List PV} {vs : Array Value} (hvk : vs.size = kc.length) (hv : ∀ (i : Nat) (c : PV),kc[i]? = some c → VR w M c (vs.getD i undef)) :
    ∀ {es:List (PV × PV)} {E:List MapEntry} {q:Option Nat} (j:Nat),es.length=E.length→(∀ (i:Nat) (p:PV × PV) (e:MapEntry),es[i]?=some p→E[i]?=some e→VR w M p.1 e.key∧VR w M p.2 e.val)→dX T kt kc es=some q →
     (Instr.findAsking kt (.agg vs) E j).run P w=.ok (q.bind fun i=>(E[i]?).map fun e=>(j+i,e.val)) w∧∀ i,q=some i→∃ p e c us,es[i]?=some p∧E[i]?=some e∧p.1=.agg c∧e.key=.agg us∧OG T 4 kt kc c=some true:=by
  intro es
  induction es with
  | nil =>
   intro E q j hl hE hq
   have:E=[]:=List.length_eq_zero_iff.1 (by simpa using hl.symm)
   subst this
   simp[dX]at hq
   subst hq
   exact⟨by simp[Instr.findAsking],fun i h=>by cases h⟩
  | cons p es ih =>
   intro E q j hl hE hq
   match E,hl with
   | e::E,hl =>
    obtain⟨he1,he2⟩:=hE 0 p e rfl rfl
    have hrest:∀ (i:Nat) (p:PV × PV) (e:MapEntry),es[i]?=some p→E[i]?=some e→VR w M p.1 e.key∧VR w M p.2 e.val:=fun i p e h1 h2=>hE (i+1) p e (by simpa using h1) (by simpa using h2)
    unfold dX at hq
    cases hp:p.1 with
    | agg c =>
     rw[hp]at hq he1
     simp only[PV.Zn]at hq
     cases he1':e.key with
     | agg us =>
      rw[he1']at he1
      cases he1 with
      | agg _ _ hn hl1 hh =>
       have hpl:=ok.plain hk
       have hu':=ok.und hu
       unfold KN at hpl
       rw[hu']at hpl
       simp only[qBa,qBb]at hpl
       have hagg:tC P kt=true:=by unfold tC;rw[hu']
       have main:∀ b,OG T 4 kt kc c=some b→(Op.equal kt (.agg vs) (.agg us)).run P w=.ok b w:=by
        intro b hb
        exact U2 ok 4 9996 kt kc c b (.agg vs) (.agg us) hpl.1 hb (by unfold Rep;rw[if_pos hagg];exact⟨vs,rfl,hvk,hv⟩) (by unfold Rep;rw[if_pos hagg];exact⟨us,rfl,hn,hh⟩)
       cases hq1:OG T 4 kt kc c with
       | none=>rw[hq1]at hq;cases hq
       | some b =>
        rw[hq1]at hq
        have hm:=main b hq1
        cases b with
        | true =>
         simp only[qOa]at hq
         subst hq
         refine⟨by simp[Instr.findAsking,he1',hm],fun i hi=>?_⟩
         cases hi
         exact⟨p,e,c,us,rfl,rfl,hp,he1',hq1⟩
        | false =>
         simp only[Option.map_eq_some_iff]at hq
         obtain⟨q',hq',rfl⟩:=hq
         obtain⟨g1,g2⟩:=ih (j+1) (by simpa using hl) hrest hq'
         refine⟨?_,fun i hi=>?_⟩
         · simp only[Instr.findAsking,he1',Sem.run_bind,hm,qRa,Bool.false_eq_true,if_false,g1]
           cases q' with
           | none=>rfl
           | some i =>
            simp only[Option.bind_some,Option.map_some,List.getElem?_cons_succ,show j+1+i=j+(i+1) by omega]
         · cases q' with
           | none=>cases hi
           | some i' =>
            simp only[Option.map_some,qOa]at hi
            subst hi
            obtain⟨p2,e2,c2,us2,k1,k2,k3⟩:=g2 i' rfl
            exact⟨p2,e2,c2,us2,by simpa using k1,by simpa using k2,k3⟩
     | _=>rw[he1']at he1;cases he1
    | _=>rw[hp]at hq;simp[PV.Zn]at hq
   | [],hl=>simp at hl
def PV.qI:PV→Bool
 | .int _ _=>true
 | _=>false
theorem Ig:∀ {fs:List Field} {o:Nat} {xs ys:List PV},rZ T o fs=true→NH (ni T) (OG T 3) fs xs ys=some true→xs=ys∧xs.length=fs.length∧∀ x∈xs,x.qI=true
 | [],o,xs,ys,_,h=>by
  cases xs<;>cases ys<;>simp[NH]at h
  simp
 | f::fs,o,xs,ys,hf,h=>by
  obtain⟨h1,h2,h3,h4⟩:=EP hf 0 f rfl
  have hf':rZ T (o+1) fs=true:=by
   simp only[rZ,qBa]at hf
   exact hf.2.2
  unfold NH at h
  rw[h3]at h
  simp only at h
  cases hc:(Nat.ble 1 xs.length&&Nat.ble 1 ys.length) with
  | false=>rw[hc]at h;cases h
  | true =>
   rw[hc]at h
   simp only[cond_true,qBa,Nat.ble_eq]at h hc
   match xs,ys,hc with
   | x::xs,y::ys,_ =>
    simp only[List.take_succ_cons,List.take_zero,List.drop_succ_cons,List.drop_zero]at h
    cases e1:OG T 3 f.type [x] [y] with
    | none=>rw[e1]at h;simp at h
    | some b1 =>
     cases e2:NH (ni T) (OG T 3) fs xs ys with
     | none=>rw[e1,e2]at h;simp at h
     | some b2 =>
      rw[e1,e2]at h
      simp only[qOa,qBa]at h
      obtain⟨rfl,rfl⟩:=h
      obtain⟨g1,g2,g3⟩:=Ig hf' e2
      have hxy:x=y∧x.qI=true:=by
       unfold OG at e1
       obtain⟨k,hu⟩:=h4
       rw[hu]at e1
       cases x<;>cases y<;>simp[vw]at e1
       rename_i k1 n1 k2 n2 _
       cases hj:(k1==k2) with
       | false=>rw[hj]at e1;cases e1
       | true =>
        rw[hj]at e1
        simp only[cond_true,qOa]at e1
        have e1:=eq_of_beq e1
        have hj':k1=k2:=by simpa using hj
        subst hj'
        subst e1
        exact⟨rfl,rfl⟩
      obtain⟨rfl,hp⟩:=hxy
      subst g1
      refine⟨rfl,by simp[g2],?_⟩
      intro z hz
      rcases List.mem_cons.1 hz with rfl | hz
      · exact hp
      · exact g3 z hz
   | [],_,hc=>simp at hc
   | _::_,[],hc=>simp at hc
theorem NR {x:PV} {c d:Value} {n:Nat} (hx:x.qI=true) (h1:VR w M x c) (h2:VR w M x d):Instr.sameBits n c d=true:=by
 cases h1<;>simp[PV.qI]at hx<;>cases h2<;>cases n<;>simp[Instr.sameBits]
theorem Gl {kc : List PV} {us vs : Array Value} {n : Nat} (hp : ∀ x ∈ kc,x.qI = true) (hu : us.size = kc.length) (hv : vs.size = kc.length) (h1 : ∀ (i : Nat) (c : PV),kc[i]? = some c → VR w M c (us.getD i undef))
    (h2:∀ (i:Nat) (c:PV),kc[i]?=some c→VR w M c (vs.getD i undef)):Instr.sameBits (n+1) (.agg us) (.agg vs)=true:=by
  unfold Instr.sameBits
  simp only[qBa,beq_iff_eq,List.all_eq_true]
  refine⟨by omega,?_⟩
  rintro ⟨a,b⟩ hab
  obtain⟨i,hi,e⟩:=List.getElem_of_mem hab
  simp only[List.getElem_zip,Prod.mk.injEq]at e
  have hi':i<us.size∧i<vs.size:=by simp at hi;omega
  have hk:kc[i]?=some kc[i]:=qLd (by omega)
  have g1:=h1 i _ hk
  have g2:=h2 i _ hk
  rw[Array.getD,dif_pos hi'.1]at g1
  rw[Array.getD,dif_pos hi'.2]at g2
  obtain⟨e1,e2⟩:=e
  have f1:us.getInternal i hi'.1=a:=by rw[← e1];simp
  have f2:vs.getInternal i hi'.2=b:=by rw[← e2];simp
  rw[f1]at g1
  rw[f2]at g2
  exact NR (hp _ (List.getElem_mem (by omega))) g1 g2
theorem Bj (s:ByteArray):(s==s)=true:=by
 obtain⟨d⟩:=s
 show (d==d)=true
 exact beq_self_eq_true d
theorem FQ {s t:ByteArray} (h:(s==t)=true):s=t:=by
 obtain⟨d⟩:=s
 obtain⟨e⟩:=t
 have:(d==e)=true:=h
 rw[eq_of_beq this]
theorem Vd {kt : TypeId} {d : TypeDesc} {k x : PV} {b : Bool} {ck cx : Value} (hd : und T kt = some d) (he : vw (und T kt) k x = some b) (hk : VR w M k ck) (hx : VR w M x cx) :
    Instr.sameNow d ck cx=some b∧(b=true→k=x):=by
  rw[hd]at he
  cases k<;>cases x<;>simp[vw]at he
  · rename_i b1 b2
    cases hk;cases hx
    cases d<;>simp at he
    subst he
    exact⟨by simp[Instr.sameNow],fun h=>by simpa using h⟩
  · rename_i k1 n1 k2 n2
    cases hk;cases hx
    cases d<;>simp at he
    cases hj:(k1==k2) with
    | false=>rw[hj]at he;cases he
    | true =>
     rw[hj]at he
     simp only[cond_true,qOa]at he
     have hj':k1=k2:=by simpa using hj
     subst hj' he
     exact⟨by simp[Instr.sameNow],fun h=>by simpa using h⟩
  · rename_i s1 s2
    cases hk;cases hx
    cases d<;>simp at he
    subst he
    exact⟨by simp[Instr.sameNow],fun h=>by rw[FQ h]⟩
theorem QB {kt : TypeId} {d : TypeDesc} {k : PV} {ck : Value} (hd : und T kt = some d) (hk : VR w M k ck) : ∀ {es : List (PV × PV)} {E : List MapEntry} {q : Option Nat} (j : Nat),es.length = E.length →
    (∀ (i:Nat) (p:PV × PV) (e:MapEntry),es[i]?=some p→E[i]?=some e→VR w M p.1 e.key∧VR w M p.2 e.val)→bK T kt k es=some q →
      Instr.findNow d ck E j=some (q.bind fun i=>(E[i]?).map fun e=>(j+i,e.val))∧∀ i,q=some i→∃ p e,es[i]?=some p∧E[i]?=some e∧p.1=k:=by
  intro es
  induction es with
  | nil =>
   intro E q j hl _ hq
   have:E=[]:=List.length_eq_zero_iff.1 (by simpa using hl.symm)
   subst this
   simp[bK]at hq
   subst hq
   exact⟨rfl,fun i h=>by cases h⟩
  | cons p es ih =>
   intro E q j hl hE hq
   match E,hl with
   | [],hl=>simp at hl
   | e::E,hl =>
    obtain⟨he1,_⟩:=hE 0 p e rfl rfl
    unfold bK at hq
    cases hq1:vw (und T kt) k p.1 with
    | none=>rw[hq1]at hq;cases hq
    | some b =>
     rw[hq1]at hq
     obtain⟨n1,n2⟩:=Vd hd hq1 hk he1
     cases b with
     | true =>
      simp only[qOa]at hq
      subst hq
      exact⟨by simp[Instr.findNow,n1],fun i hi=>by cases hi;exact⟨p,e,rfl,rfl,(n2 rfl).symm⟩⟩
     | false =>
      simp only[Option.map_eq_some_iff]at hq
      obtain⟨q',hq',rfl⟩:=hq
      obtain⟨g1,g2⟩:=ih (j+1) (by simpa using hl) (fun i p e h1 h2=>hE (i+1) p e (by simpa using h1) (by simpa using h2)) hq'
      refine⟨?_,fun i hi=>?_⟩
      · simp only[Instr.findNow,n1,g1]
        cases q' with
        | none=>rfl
        | some i=>simp only[Option.bind_some,Option.map_some,List.getElem?_cons_succ,show j+1+i=j+(i+1) by omega]
      · cases q' with
        | none=>cases hi
        | some i' =>
         simp only[Option.map_some,qOa]at hi
         subst hi
         obtain⟨p2,e2,k1,k2,k3⟩:=g2 i' rfl
         exact⟨p2,e2,by simpa using k1,by simpa using k2,k3⟩
theorem Gm (ok : bJ P T) {kt : TypeId} {k : PV} {ck : Value} (hk : VR w M k ck) (hl : ou T kt = true) {es : List (PV × PV)} {E : List MapEntry} {q : Option Nat} (hn : es.length = E.length)
    (hE:∀ (i:Nat) (p:PV × PV) (e:MapEntry),es[i]?=some p→E[i]?=some e→VR w M p.1 e.key∧VR w M p.2 e.val) (hq:bK T kt k es=some q) :
    (Instr.findKey kt ck E).run P w=.ok (q.bind fun i=>(E[i]?).map fun e=>(i,e.val)) w∧∀ i,q=some i→∃ p e,es[i]?=some p∧E[i]?=some e∧p.1=k:=by
  unfold ou at hl
  cases hd:und T kt with
  | none=>rw[hd]at hl;cases hl
  | some d =>
   obtain⟨g1,g2⟩:=QB hd hk 0 hn hE hq
   refine⟨?_,g2⟩
   unfold Instr.findKey
   simp only[Sem.run_bind,aX (ok.und hd),qRa,g1,Nat.zero_add,Sem.run_pure]
theorem D8 (ok:bJ P T) {kt:TypeId} (hl:ou T kt=true) {em:Bool} {n:Nat} {ck:Value}:(Instr.checkKey em (n+1) kt ck).run P w=.ok () w:=by
 unfold ou at hl
 cases hd:und T kt with
 | none=>rw[hd]at hl;cases hl
 | some d =>
  rw[hd]at hl
  rw[Instr.checkKey]
  simp only[Sem.run_bind,aX (ok.und hd),qRa]
  cases d<;>simp at hl<;>rfl
theorem QC {x:PV} {c d:Value} {n:Nat} (hx:x.wO=true) (h1:VR w M x c) (h2:VR w M x d):Instr.sameBits n c d=true:=by
 cases h1<;>simp[PV.wO]at hx<;>cases h2<;>cases n<;>simp[Instr.sameBits,Bj]
theorem Me (ok : bJ P T) (r : Rel w0 Pr M0 M β st a w) {h' : Nat → Option aJ} (hsub : ∀ s b,h' s = some b → look st.heap s = some b) {t : TypeId} {m k v : AV} {cm ck cv : Value}
    (hm:AR w M β (look st.heap) m cm) (hk:AR w M β (look st.heap) k ck) (hv:AR w M β (look st.heap) v cv):aO P w0 Pr M0 β st a w d (vG T h' t m k v) (do Instr.mapUpdate t cm ck cv;pure .skip):=by
  unfold vG
  split
  · rename_i kt et s k v hu
    have hu:=ok.und hu
    split
    · rename_i u es hl0
      have hl:=hsub _ _ hl0
      refine aO.chk fun hb=>aO.chk fun hf=>?_
      simp only[qBa]at hb
      obtain⟨hb1,hb2,hb3⟩:=hb
      cases hm with
      | EG _ _ _ _ _ g1=>rw[hl]at g1;cases g1
      | vK _ _ g1=>rw[hl]at g1;cases g1
      | EF _ u' es' b o g1 g2 =>
       cases r.heap s _ hl with
       | mp _ _ b' o' E n k1 k2 k3 k4 =>
        rw[g2]at k1;cases k1
        cases hk with
        | p _ _ hk =>
        cases hv with
        | p _ _ hv =>
        obtain⟨q,hq⟩:=Option.isSome_iff_exists.1 hf
        rw[hq,Option.getD_some]
        obtain⟨hfind,f2⟩:=Gm (P:=P) ok hk hb1 (E:=E.toList) (by simpa using k3.1.symm) (fun i p e hi he=>k4 i p e hi (by simpa using he)) hq
        have NS:(getObj b).run P w=.ok (.map E n) w:=by simp[getObj,Sem.run,k2]
        have hset:∀ o':Obj,(setObj b o').run P w=.ok () { w with heap:=w.heap.setIfInBounds b o' }:=fun o'=>by simp[setObj,Sem.run,k2]
        have Mc:=D8 (P:=P) (w:=w) ok hb1 (em:=false) (n:=9999) (ck:=ck)
        cases q with
        | none =>
         have run:(Instr.mapUpdate t (.map (some b)) ck cv).run P w=.ok () { w with heap:=w.heap.setIfInBounds b (.map (E.push { key:=ck,val:=cv,born:=n }) (n+1)) }:=by
          simp only[Instr.mapUpdate,Sem.run_bind,aX hu,qRa,NS,Mc,hfind,Option.bind_none,hset]
         refine aO.ret (h5:=fun _=>lW (.inr ⟨_,hl,rfl⟩)) (nv:=.skip) (c:=undef) (M':=M) (β':=β) (by simp only[Sem.run_bind,run,qRa,Sem.run_pure];rfl) (.inr ⟨rfl,rfl⟩) fun _=>?_
         rw[oW]
         have hw:=r.writeM (es':=dw es k v none) (w':={ w with heap:=w.heap.setIfInBounds b (.map (E.push { key:=ck,val:=cv,born:=n }) (n+1)) }) hl g2 k2 rfl rfl rfl rfl (by
          have:=EO k3 ck cv
          simpa [dw] using this) (by
          intro hmono i p e hi he
          simp only[dw,List.getElem?_append]at hi
          rw[Array.getElem?_push,k3.1]at he
          split at hi
          · rename_i hlt
            rw[if_neg (by omega)]at he
            exact⟨hmono _ _ (k4 i p e hi he).1,hmono _ _ (k4 i p e hi he).2⟩
          · rename_i hge
            have hi0:i-es.length=0:=by
             have:=(qLa.1 hi).1
             simp at this;omega
            have:i=es.length:=by omega
            rw[if_pos this]at he
            rw[hi0]at hi
            simp only[List.getElem?_cons_zero,qOa]at hi he
            subst hi he
            exact⟨hmono _ _ hk,hmono _ _ hv⟩)
         exact hw.setEnv d (v:=.undef) (c:=undef) (.undef _)
        | some i =>
         obtain⟨p,e,j1,j2,j3⟩:=f2 i rfl
         have WL:E[i]?=some e:=by simpa using j2
         have j1':=(k4 i p e j1 WL).1
         rw[j3]at j1'
         have hsb:Instr.sameBits 10000 e.key ck=true:=QC hb3 j1' hk
         have hst:(Instr.keyThatStays (((E[i]?).map (·.key)).getD ck) ck).run P w=.ok ck w:=by
          rw[WL,Option.map_some,Option.getD_some]
          unfold Instr.keyThatStays
          rw[if_pos hsb]
          rfl
         have run:(Instr.mapUpdate t (.map (some b)) ck cv).run P w=.ok () { w with heap:=w.heap.setIfInBounds b (.map (E.modify i fun e=>{ e with key:=ck,val:=cv }) n) }:=by
          simp only[Instr.mapUpdate,Sem.run_bind,aX hu,qRa,NS,Mc,hfind,Option.bind_some,j2,Option.map_some,hst,hset]
         refine aO.ret (h5:=fun _=>lW (.inr ⟨_,hl,rfl⟩)) (nv:=.skip) (c:=undef) (M':=M) (β':=β) (by simp only[Sem.run_bind,run,qRa,Sem.run_pure];rfl) (.inr ⟨rfl,rfl⟩) fun _=>?_
         rw[oW]
         have hw:=r.writeM (es':=dw es k v (some i)) (w':={ w with heap:=w.heap.setIfInBounds b (.map (E.modify i fun e=>{ e with key:=ck,val:=cv }) n) }) hl g2 k2 rfl rfl rfl rfl (by
          have:=tY k3 (i:=i) (f:=fun e=>{ e with key:=ck,val:=cv }) (fun _=>rfl)
          simpa [dw] using this) (by
          intro hmono j p' e' hj he
          simp only[dw,List.getElem?_set]at hj
          rw[Array.getElem?_modify]at he
          by_cases hij:i=j
          · subst hij
            have hlt:=(qLa.1 j1).1
            rw[if_pos rfl,if_pos hlt]at hj
            rw[if_pos rfl,WL]at he
            simp only[Option.map_some,qOa]at hj he
            subst hj he
            have:es.getD i (.nil,.nil)=p:=by simp[List.getD,j1]
            rw[this,j3]
            exact⟨hmono _ _ hk,hmono _ _ hv⟩
          · rw[if_neg hij]at hj
            rw[if_neg hij]at he
            exact⟨hmono _ _ (k4 j p' e' hj he).1,hmono _ _ (k4 j p' e' hj he).2⟩)
         exact hw.setEnv d (v:=.undef) (c:=undef) (.undef _)
    · exact aO.fail
  · exact aO.fail
theorem QD {kt:TypeId} {k:PV} {es:List (PV × PV)} (h:∀ kc,k≠.agg kc):gX T kt k es=bif ou T kt&&k.wO then bK T kt k es else none:=by
 cases k<;>first | rfl | (exact absurd rfl (h _))
theorem Ve (ok : bJ P T) {kt : TypeId} {k : PV} {ck : Value} (hk : VR w M k ck) {es : List (PV × PV)} {E : List MapEntry} {q : Option Nat} (hn : es.length = E.length)
    (hE:∀ (i:Nat) (p:PV × PV) (e:MapEntry),es[i]?=some p→E[i]?=some e→VR w M p.1 e.key∧VR w M p.2 e.val) (hq:gX T kt k es=some q) {em:Bool} :
    (Instr.checkKey em 10000 kt ck).run P w=.ok () w∧∃ r,(Instr.findKey kt ck E).run P w=.ok r w∧(q=none→r=none)∧∀ i,q=some i→∃ p e j,es[i]?=some p∧E[i]?=some e∧r=some (j,e.val):=by
  have leaf:ou T kt=true→bK T kt k es=some q→(Instr.checkKey em 10000 kt ck).run P w=.ok () w∧∃ r,(Instr.findKey kt ck E).run P w=.ok r w∧(q=none→r=none)∧∀ i,q=some i→∃ p e j,es[i]?=some p∧E[i]?=some e∧r=some (j,e.val):=by
   intro h1 h2
   obtain⟨g1,g2⟩:=Gm (P:=P) ok hk h1 hn hE h2
   refine⟨D8 ok h1 (n:=9999),_,g1,fun h=>by rw[h];rfl,fun i hi=>?_⟩
   obtain⟨p,e,k1,k2,_⟩:=g2 i hi
   exact⟨p,e,i,k1,k2,by rw[hi];simp[k2]⟩
  cases k with
  | agg kc =>
   simp only[gX]at hq
   cases hb:(jU T kt&&Nat.beq kc.length (nFields T kt)) with
   | false=>rw[hb]at hq;cases hq
   | true =>
    rw[hb,cond_true]at hq
    simp only[qBa]at hb
    obtain⟨hb1,hb3⟩:=hb
    have hb3:=Nat.eq_of_beq_eq_true hb3
    cases hk with
    | agg _ vs hvn hvl D7 =>
    obtain⟨fs,hfs⟩:∃ fs,und T kt=some (.struct fs):=by
     unfold jU at hb1
     simp only[qBa]at hb1
     have:=hb1.2
     split at this
     · rename_i fs hfs;exact⟨fs,hfs⟩
     · cases this
    have hplain:BD T kt=true:=by
     unfold jU at hb1
     simp only[qBa]at hb1
     exact hb1.1
    obtain⟨f1,f2⟩:=vU (P:=P) ok hplain hfs hvn D7 (E:=E) 0 hn hE hq
    have hfl:fs.size≤vs.size:=by
     have:nFields T kt=fs.size:=by unfold nFields;rw[hfs]
     omega
    refine⟨xU (P:=P) (w:=w) ok hb1 (cs:=vs) hfs hfl (em:=em) (n:=9998),_,(run_findKey_eq w (by rw[ok.und hfs]) (.agg vs) E).trans f1,fun h=>by rw[h];rfl,fun i hi=>?_⟩
    obtain⟨p,e,c,us,k1,k2,_⟩:=f2 i hi
    exact⟨p,e,0+i,k1,k2,by rw[hi];simp[k2]⟩
  | _ =>
   rw[QD (by intro kc h;cases h)]at hq
   revert hq
   generalize hbb:(ou T kt&&PV.wO _)=bb
   intro hq
   cases bb with
   | false=>cases hq
   | true =>
    simp only[qBa]at hbb
    exact leaf hbb.1 hq
theorem Vf (ok : bJ P T) {h : Nat → Option aJ} {h' : Nat → Option aJ} (hsub : ∀ s b,h' s = some b → h s = some b) (hh : ∀ s b,h s = some b → BR w M β h s b) {t : TypeId} {m k : AV} {b : Bool} {cm ck : Value}
    (hm:AR w M β h m cm) (hk:AR w M β h k ck):aj P w M β h (Ey T h' t m k b) (Instr.lookup t cm ck b):=by
  unfold Ey
  split
  · rename_i kt et hu
    have hu:=ok.und hu
    split
    · rename_i z kd k hz hsh
      obtain⟨inf,zv,hi1,hi2,hi3⟩:=ok.zero hz
      have hzv:VR w M z zv:=vM hi3
      cases hk with
      | p _ _ hk =>
      have core : ∀ (es : List (PV × PV)) (E : Array MapEntry),es.length = E.size → (∀ (i : Nat) (p : PV × PV) (e : MapEntry),es[i]? = some p → E.toList[i]? = some e → VR w M p.1 e.key ∧ VR w M p.2 e.val) →
          ∀ (x:Value),((x=.map none∧E=#[])∨∃ r n,x=.map (some r)∧(getObj r).run P w=.ok (.map E n) w)→aj P w M β h (Qi T kt kd z es k b) (Instr.lookup t x ck b):=by
        intro es E hn hE x hx
        unfold Qi
        refine aj.chk fun hf=>aj.chk fun hkd=>?_
        obtain⟨q,hq⟩:=Option.isSome_iff_exists.1 hf
        rw[hq,Option.getD_some]at hkd ⊢
        obtain⟨h1,r,h2,h3,h4⟩:=Ve (P:=P) ok hk (E:=E.toList) (by simpa using hn) hE hq (em:=E.isEmpty)
        have hzr:=lD (P:=P) (w:=w) hi1 hi2
        have fin:∀ (v:PV) (c:Value) (o:Bool),VR w M v c→kindOk kd v=true→AR w M β h (bif b then .nJ [.p (eta kd v),.p (.bool o)] else .p (eta kd v)) (if b then .tuple #[c,.bool o] else c):=by
         intro v c o hv hkv
         have he:=vJ hkv hv
         cases b with
         | false=>exact .p _ _ he
         | true =>
          refine .nJ _ _ rfl ?_
          intro i x hx
          match i,hx with
          | 0,hx=>cases hx;exact .p _ _ he
          | 1,hx=>cases hx;exact .p _ _ (.bool o)
          | i+2,hx=>simp at hx
        cases q with
        | none =>
         have hr:=h3 rfl
         subst hr
         refine aj.ret (fin _ zv false hzv hkd) ?_
         rcases hx with ⟨rfl,rfl⟩ | ⟨r,n,rfl,hr⟩
         · simp only[Instr.lookup,Sem.run_bind,aX hu,qRa,h1,h2,hzr,Sem.run_pure]
         · simp only[Instr.lookup,Sem.run_bind,aX hu,qRa,hr,h1,h2,hzr,Sem.run_pure]
        | some i =>
         obtain⟨p,e,j,k1,k2,k3⟩:=h4 i rfl
         subst k3
         have hv:=(hE i p e k1 k2).2
         have hp:kL z es (some i)=p.2:=by
          show (es.getD i (.nil,.nil)).2=_
          rw[qLb,k1];rfl
         rw[hp]at hkd ⊢
         refine aj.ret (fin _ e.val true hv hkd) ?_
         rcases hx with ⟨rfl,rfl⟩ | ⟨r,n,rfl,hr⟩
         · simp only[Instr.lookup,Sem.run_bind,aX hu,qRa,h1,h2,Sem.run_pure]
         · simp only[Instr.lookup,Sem.run_bind,aX hu,qRa,hr,h1,h2,Sem.run_pure]
      split
      · rename_i s
        split
        · rename_i u es hl0
          have hl:=hsub _ _ hl0
          cases hm with
          | EG _ _ _ _ _ g1=>rw[hl]at g1;cases g1
          | vK _ _ g1=>rw[hl]at g1;cases g1
          | EF _ u' es' b0 o g1 g2 =>
           cases hh s _ hl with
           | mp _ _ b' o' E n k1 k2 k3 k4 =>
            rw[g2]at k1;cases k1
            exact core es E k3.1.symm (fun i p e hi he=>k4 i p e hi (by simpa using he)) _ (.inr ⟨_,n,rfl,by simp[getObj,Sem.run,k2]⟩)
        · exact aj.fail
      · rename_i v
        refine aj.chk fun hm'=>?_
        cases v<;>simp only[PV.isMap,Bool.false_eq_true]at hm'
        · rename_i ks vs
          have hlen:=Nat.eq_of_beq_eq_true hm'
          cases hm with
          | p _ _ hm =>
          cases hm with
          | Es _ _ b0 E n g1 g2 g3 g4 g5 g6 =>
           refine core (ks.zip vs) E (by simp[g3.1,hlen]) (fun i p e hi he=>?_) _ (.inr ⟨_,n,rfl,by simp[getObj,Sem.run,g2]⟩)
           rw[List.getElem?_zip_eq_some]at hi
           exact⟨g5 i _ e hi.1 (by simpa using he),g6 i _ e hi.2 (by simpa using he)⟩
        · cases hm with
          | p _ _ hm =>
          cases hm with
          | Ho =>
           exact core [] #[] rfl (fun i p e hi he=>by simp at hi) _ (.inl ⟨rfl,rfl⟩)
      · exact aj.fail
    · exact aj.fail
  · exact aj.fail
theorem D9 (ok : bJ P T) (r : Rel w0 Pr M0 M β st a w) {h' : Nat → Option aJ} (hsub : ∀ s b,h' s = some b → look st.heap s = some b) {t : TypeId} {m k v : AV} {cm ck cv : Value}
    (hm:AR w M β (look st.heap) m cm) (hk:AR w M β (look st.heap) k ck) (hv:AR w M β (look st.heap) v cv):aO P w0 Pr M0 β st a w d (qQ T h' t m k v) (do Instr.mapUpdate t cm ck cv;pure .skip):=by
  unfold qQ
  split
  case h_2=>exact Me ok r hsub hm hk hv
  rename_i kc
  split
  · rename_i kt et s v hu
    have hu:=ok.und hu
    split
    · rename_i u es hl0
      have hl:=hsub _ _ hl0
      refine aO.chk fun hb=>aO.chk fun hf=>?_
      simp only[qBa]at hb
      obtain⟨hb1,hb2,hb3⟩:=hb
      have hb3:=Nat.eq_of_beq_eq_true hb3
      cases hm with
      | EG _ _ _ _ _ g1=>rw[hl]at g1;cases g1
      | vK _ _ g1=>rw[hl]at g1;cases g1
      | EF _ u' es' b o g1 g2 =>
       cases r.heap s _ hl with
       | mp _ _ b' o' E n k1 k2 k3 k4 =>
        rw[g2]at k1;cases k1
        cases hk with
        | p _ _ hk =>
        cases hk with
        | agg _ vs hvn hvl D7 =>
        cases hv with
        | p _ _ hv =>
        obtain⟨q,hq⟩:=Option.isSome_iff_exists.1 hf
        rw[hq,Option.getD_some]
        obtain⟨fs,hfs⟩:∃ fs,und T kt=some (.struct fs):=by
         unfold jU at hb1
         simp only[qBa]at hb1
         have:=hb1.2
         split at this
         · rename_i fs hfs;exact⟨fs,hfs⟩
         · cases this
        have hplain:BD T kt=true:=by
         unfold jU at hb1
         simp only[qBa]at hb1
         exact hb1.1
        have ZO:rZ T 0 fs.toList=true:=by
         unfold jU at hb1
         rw[hfs]at hb1
         simp only[qBa]at hb1
         exact hb1.2
        obtain⟨f1,f2⟩:=vU (P:=P) ok hplain hfs hvn D7 (E:=E.toList) 0 (by simpa using k3.1.symm) (fun i p e hi he=>k4 i p e hi (by simpa using he)) hq
        have NS:(getObj b).run P w=.ok (.map E n) w:=by simp[getObj,Sem.run,k2]
        have hset:∀ o':Obj,(setObj b o').run P w=.ok () { w with heap:=w.heap.setIfInBounds b o' }:=fun o'=>by simp[setObj,Sem.run,k2]
        have hfl:fs.size≤vs.size:=by
         have:nFields T kt=fs.size:=by unfold nFields;rw[hfs]
         omega
        have Mc:=xU (P:=P) (w:=w) ok hb1 (cs:=vs) hfs hfl (em:=false) (n:=9998)
        have hfind:(Instr.findKey kt (.agg vs) E.toList).run P w=.ok (q.bind fun i=>(E.toList[i]?).map fun e=>(0+i,e.val)) w:=by
         rw[run_findKey_eq w (by rw[ok.und hfs]) (.agg vs) E.toList]
         exact f1
        cases q with
        | none =>
         have run:(Instr.mapUpdate t (.map (some b)) (.agg vs) cv).run P w=.ok () { w with heap:=w.heap.setIfInBounds b (.map (E.push { key:=.agg vs,val:=cv,born:=n }) (n+1)) }:=by
          simp only[Instr.mapUpdate,Sem.run_bind,aX hu,qRa,NS,Mc,hfind,Option.bind_none,hset]
         refine aO.ret (h5:=fun _=>lW (.inr ⟨_,hl,rfl⟩)) (nv:=.skip) (c:=undef) (M':=M) (β':=β) (by simp only[Sem.run_bind,run,qRa,Sem.run_pure];rfl) (.inr ⟨rfl,rfl⟩) fun _=>?_
         rw[oW]
         have hw:=r.writeM (es':=dw es (.agg kc) v none) (w':={ w with heap:=w.heap.setIfInBounds b (.map (E.push { key:=.agg vs,val:=cv,born:=n }) (n+1)) }) hl g2 k2 rfl rfl rfl rfl (by
          have:=EO k3 (.agg vs) cv
          simpa [dw] using this) (by
          intro hmono i p e hi he
          simp only[dw,List.getElem?_append]at hi
          rw[Array.getElem?_push,k3.1]at he
          split at hi
          · rename_i hlt
            rw[if_neg (by omega)]at he
            exact⟨hmono _ _ (k4 i p e hi he).1,hmono _ _ (k4 i p e hi he).2⟩
          · rename_i hge
            have hi0:i-es.length=0:=by
             have:=(qLa.1 hi).1
             simp at this;omega
            have:i=es.length:=by omega
            rw[if_pos this]at he
            rw[hi0]at hi
            simp only[List.getElem?_cons_zero,qOa]at hi he
            subst hi he
            exact⟨hmono _ _ (.agg kc vs hvn hvl D7),hmono _ _ hv⟩)
         exact hw.setEnv d (v:=.undef) (c:=undef) (.undef _)
        | some i =>
         obtain⟨p,e,c,us,j1,j2,j3,j4,j5⟩:=f2 i rfl
         have WL:E[i]?=some e:=by simpa using j2
         have j1':=(k4 i p e j1 WL).1
         rw[j3,j4]at j1'
         have hsame:kc=c∧∀ x∈kc,x.qI=true:=by
          unfold OG at j5
          rw[hfs]at j5
          obtain⟨x1,x2,x3⟩:=Ig ZO j5
          exact⟨x1,x3⟩
         obtain⟨rfl,hpl⟩:=hsame
         have hsb:Instr.sameBits 10000 (.agg us) (.agg vs)=true:=by
          cases j1' with
          | agg _ _ hn hl1 hh=>exact Gl (n:=9999) hpl hn hvn hh D7
         have hst:(Instr.keyThatStays (((E[i]?).map (·.key)).getD (.agg vs)) (.agg vs)).run P w=.ok (.agg vs) w:=by
          rw[WL,Option.map_some,Option.getD_some,j4]
          unfold Instr.keyThatStays
          rw[if_pos hsb]
          rfl
         have run:(Instr.mapUpdate t (.map (some b)) (.agg vs) cv).run P w=.ok () { w with heap:=w.heap.setIfInBounds b (.map (E.modify i fun e=>{ e with key:=.agg vs,val:=cv }) n) }:=by
          simp only[Instr.mapUpdate,Sem.run_bind,aX hu,qRa,NS,Mc,hfind,Option.bind_some,j2,Option.map_some,Nat.zero_add,hst,hset]
         refine aO.ret (h5:=fun _=>lW (.inr ⟨_,hl,rfl⟩)) (nv:=.skip) (c:=undef) (M':=M) (β':=β) (by simp only[Sem.run_bind,run,qRa,Sem.run_pure];rfl) (.inr ⟨rfl,rfl⟩) fun _=>?_
         rw[oW]
         have hw:=r.writeM (es':=dw es (.agg kc) v (some i)) (w':={ w with heap:=w.heap.setIfInBounds b (.map (E.modify i fun e=>{ e with key:=.agg vs,val:=cv }) n) }) hl g2 k2 rfl rfl rfl rfl (by
          have:=tY k3 (i:=i) (f:=fun e=>{ e with key:=.agg vs,val:=cv }) (fun _=>rfl)
          simpa [dw] using this) (by
          intro hmono j p' e' hj he
          simp only[dw,List.getElem?_set]at hj
          rw[Array.getElem?_modify]at he
          by_cases hij:i=j
          · subst hij
            have hlt:=(qLa.1 j1).1
            rw[if_pos rfl,if_pos hlt]at hj
            rw[if_pos rfl,WL]at he
            simp only[Option.map_some,qOa]at hj he
            subst hj he
            have:es.getD i (.nil,.nil)=p:=by simp[List.getD,j1]
            rw[this,j3]
            exact⟨hmono _ _ (.agg kc vs hvn hvl D7),hmono _ _ hv⟩
          · rw[if_neg hij]at hj
            rw[if_neg hij]at he
            exact⟨hmono _ _ (k4 j p' e' hj he).1,hmono _ _ (k4 j p' e' hj he).2⟩)
         exact hw.setEnv d (v:=.undef) (c:=undef) (.undef _)
    · exact aO.fail
  · exact aO.fail
theorem QE (ok : bJ P T) (r : Rel w0 Pr M0 M β st a w) {h' : Nat → Option aJ} (hsub : ∀ s b,h' s = some b → look st.heap s = some b) {t : TypeId} {m k : AV} {cm ck : Value}
    (hm:AR w M β (look st.heap) m cm) (hk:AR w M β (look st.heap) k ck):aO P w0 Pr M0 β st a w d (zM T h' t m k) (do pure (.value (← Instr.mapEntry t cm ck))):=by
  unfold zM
  split
  · rename_i kt et s kc hu
    have hu:=ok.und hu
    split
    · rename_i u es z hl0 hz
      have hl:=hsub _ _ hl0
      obtain⟨inf,zv,hi1,hi2,hi3⟩:=ok.zero hz
      have hzv:∀ (w:World) (M:Nat→Prop),VR w M z zv:=fun w M=>vM hi3
      refine aO.chk fun hb=>aO.chk fun hf=>?_
      simp only[qBa]at hb
      obtain⟨hb1,hb2,hb3⟩:=hb
      have hb3:=Nat.eq_of_beq_eq_true hb3
      cases hm with
      | EG _ _ _ _ _ g1=>rw[hl]at g1;cases g1
      | vK _ _ g1=>rw[hl]at g1;cases g1
      | EF _ u' es' b o g1 g2 =>
       cases r.heap s _ hl with
       | mp _ _ b' o' E n k1 k2 k3 k4 =>
        rw[g2]at k1;cases k1
        cases hk with
        | p _ _ hk =>
        cases hk with
        | agg _ vs hvn hvl D7 =>
        obtain⟨q,hq⟩:=Option.isSome_iff_exists.1 hf
        rw[hq,Option.getD_some]
        obtain⟨fs,hfs⟩:∃ fs,und T kt=some (.struct fs):=by
         unfold jU at hb1
         simp only[qBa]at hb1
         have:=hb1.2
         split at this
         · rename_i fs hfs;exact⟨fs,hfs⟩
         · cases this
        have hplain:BD T kt=true:=by
         unfold jU at hb1
         simp only[qBa]at hb1
         exact hb1.1
        have ZO:rZ T 0 fs.toList=true:=by
         unfold jU at hb1
         rw[hfs]at hb1
         simp only[qBa]at hb1
         exact hb1.2
        obtain⟨f1,f2⟩:=vU (P:=P) ok hplain hfs hvn D7 (E:=E.toList) 0 (by simpa using k3.1.symm) (fun i p e hi he=>k4 i p e hi (by simpa using he)) hq
        have NS:(getObj b).run P w=.ok (.map E n) w:=by simp[getObj,Sem.run,k2]
        have hset:∀ o':Obj,(setObj b o').run P w=.ok () { w with heap:=w.heap.setIfInBounds b o' }:=fun o'=>by simp[setObj,Sem.run,k2]
        have hfl:fs.size≤vs.size:=by
         have:nFields T kt=fs.size:=by unfold nFields;rw[hfs]
         omega
        have Mc:=xU (P:=P) (w:=w) ok hb1 (cs:=vs) hfs hfl (em:=false) (n:=9998)
        have hfind:(Instr.findKey kt (.agg vs) E.toList).run P w=.ok (q.bind fun i=>(E.toList[i]?).map fun e=>(0+i,e.val)) w:=by
         rw[run_findKey_eq w (by rw[ok.und hfs]) (.agg vs) E.toList]
         exact f1
        have hzr:=lD (P:=P) (w:=w) hi1 hi2
        have afd:∀ (w':World) (M':Nat→Prop) (h2:Nat→Option aJ) (v:PV) (c:Value) (j:Nat),VR w' M' v c→AR w' M' β h2 (.nJ [.p v,.p (.int .i64 ((j:Nat):Int))]) (.tuple #[c,.int .i64 ((j:Nat):Int)]):=by
         intro w' M' h2 v c j hv
         refine .nJ _ _ rfl ?_
         intro i x hx
         match i,hx with
         | 0,hx=>cases hx;exact .p _ _ hv
         | 1,hx=>cases hx;exact .p _ _ (.int _ _)
         | i+2,hx=>simp at hx
        cases q with
        | none =>
         have run:(Instr.mapEntry t (.map (some b)) (.agg vs)).run P w=.ok (.tuple #[zv,.int .i64 ((es.length:Nat):Int)]) { w with heap:=w.heap.setIfInBounds b (.map (E.push { key:=.agg vs,val:=zv,born:=n }) (n+1)) }:=by
          have hn:n=es.length:=k3.2.2.2.1
          simp only[Instr.mapEntry,Sem.run_bind,aX hu,qRa,NS,Mc,hfind,Option.bind_none,hzr,hset,Sem.run_pure,goInt]
          rw[hn]
         have hw:=r.writeM (es':=dw es (.agg kc) z none) (w':={ w with heap:=w.heap.setIfInBounds b (.map (E.push { key:=.agg vs,val:=zv,born:=n }) (n+1)) }) hl g2 k2 rfl rfl rfl rfl (by
          have:=EO k3 (.agg vs) zv
          simpa [dw] using this) (by
          intro hmono i p e hi he
          simp only[dw,List.getElem?_append]at hi
          rw[Array.getElem?_push,k3.1]at he
          split at hi
          · rename_i hlt
            rw[if_neg (by omega)]at he
            exact⟨hmono _ _ (k4 i p e hi he).1,hmono _ _ (k4 i p e hi he).2⟩
          · rename_i hge
            have hi0:i-es.length=0:=by
             have:=(qLa.1 hi).1
             simp at this;omega
            have:i=es.length:=by omega
            rw[if_pos this]at he
            rw[hi0]at hi
            simp only[List.getElem?_cons_zero,qOa]at hi he
            subst hi he
            exact⟨hmono _ _ (.agg kc vs hvn hvl D7),hzv _ _⟩)
         refine aO.ret (h5:=fun _=>lW (.inr ⟨_,hl,rfl⟩)) (c:=.tuple #[zv,.int .i64 ((es.length:Nat):Int)]) (M':=M) (β':=β) (by simp only[Sem.run_bind,run,qRa,Sem.run_pure];rfl) (.inl rfl) fun _=>?_
         rw[oW]
         exact hw.setEnv d (afd _ _ _ _ _ _ (hzv _ _))
        | some i =>
         obtain⟨p,e,c,us,j1,j2,j3,j4,j5⟩:=f2 i rfl
         have WL:E[i]?=some e:=by simpa using j2
         have j1':=(k4 i p e j1 WL).1
         rw[j3,j4]at j1'
         have hsame:kc=c∧∀ x∈kc,x.qI=true:=by
          unfold OG at j5
          rw[hfs]at j5
          obtain⟨x1,x2,x3⟩:=Ig ZO j5
          exact⟨x1,x3⟩
         obtain⟨rfl,hpl⟩:=hsame
         have hsb:Instr.sameBits 10000 (.agg us) (.agg vs)=true:=by
          cases j1' with
          | agg _ _ hn hl1 hh=>exact Gl (n:=9999) hpl hn hvn hh D7
         have hst:(Instr.keyThatStays (((E[i]?).map (·.key)).getD (.agg vs)) (.agg vs)).run P w=.ok (.agg vs) w:=by
          rw[WL,Option.map_some,Option.getD_some,j4]
          unfold Instr.keyThatStays
          rw[if_pos hsb]
          rfl
         have hborn:e.born=i:=k3.2.2.2.2 i e WL
         have run:(Instr.mapEntry t (.map (some b)) (.agg vs)).run P w=.ok (.tuple #[e.val,.int .i64 ((i:Nat):Int)]) { w with heap:=w.heap.setIfInBounds b (.map (E.modify i fun e=>{ e with key:=.agg vs }) n) }:=by
          simp only[Instr.mapEntry,Sem.run_bind,aX hu,qRa,NS,Mc,hfind,Option.bind_some,j2,Option.map_some,Nat.zero_add,hst,hset,Sem.run_pure,goInt]
          rw[WL,Option.map_some,Option.getD_some,hborn]
         have hp2:kL z es (some i)=p.2:=by
          show (es.getD i (.nil,.nil)).2=_
          rw[qLb,j1];rfl
         have ZP:=(k4 i p e j1 WL).2
         have hw:=r.writeM (es':=dw es (.agg kc) (kL z es (some i)) (some i)) (w':={ w with heap:=w.heap.setIfInBounds b (.map (E.modify i fun e=>{ e with key:=.agg vs }) n) }) hl g2 k2 rfl rfl rfl rfl (by
          have:=tY k3 (i:=i) (f:=fun e=>{ e with key:=.agg vs }) (fun _=>rfl)
          simpa [dw] using this) (by
          intro hmono j p' e' hj he
          simp only[dw,List.getElem?_set]at hj
          rw[Array.getElem?_modify]at he
          by_cases hij:i=j
          · subst hij
            have hlt:=(qLa.1 j1).1
            rw[if_pos rfl,if_pos hlt]at hj
            rw[if_pos rfl,WL]at he
            simp only[Option.map_some,qOa]at hj he
            subst hj he
            have:es.getD i (.nil,.nil)=p:=by simp[List.getD,j1]
            rw[this,j3]
            refine⟨hmono _ _ (.agg kc vs hvn hvl D7),?_⟩
            rw[hp2]
            exact hmono _ _ ZP
          · rw[if_neg hij]at hj
            rw[if_neg hij]at he
            exact⟨hmono _ _ (k4 j p' e' hj he).1,hmono _ _ (k4 j p' e' hj he).2⟩)
         have hval:VR { w with heap:=w.heap.setIfInBounds b (.map (E.modify i fun e=>{ e with key:=.agg vs }) n) } M (kL z es (some i)) e.val:=by
          rw[hp2]
          refine ZP.mono fun b' hb'=>⟨hb',?_⟩
          have hne:b≠b':=fun e=>(r.own s b _ (by rw[hl];rfl) g2).1 (e▸hb')
          show (w.heap.setIfInBounds b _)[b']?=_
          rw[qAe hne]
         refine aO.ret (h5:=fun _=>lW (.inr ⟨_,hl,rfl⟩)) (c:=.tuple #[e.val,.int .i64 ((i:Nat):Int)]) (M':=M) (β':=β) (by simp only[Sem.run_bind,run,qRa,Sem.run_pure];rfl) (.inl rfl) fun _=>?_
         rw[oW]
         exact hw.setEnv d (afd _ _ _ _ _ _ hval)
    · exact aO.fail
  · exact aO.fail
theorem find_born {E:Array MapEntry} (h:∀ (i:Nat) (e:MapEntry),E[i]?=some e→e.born=i) {j:Nat} (hj:j<E.size):E.findIdx? (fun e=>(e.born:Int)==((j:Nat):Int))=some j:=by
 rw[Array.findIdx?_eq_some_iff_getElem]
 refine⟨hj,?_,fun i hi=>?_⟩
 · have:=h j E[j] (by simp)
   simp[this]
 · have:=h i E[i] (by simp)
   simp[this]
   omega
theorem MB (r : Rel w0 Pr M0 M β st a w) {h' : Nat → Option aJ} (hsub : ∀ s b,h' s = some b → look st.heap s = some b) {t : TypeId} {m k v : AV} {cm ck cv : Value}
    (hm:AR w M β (look st.heap) m cm) (hk:AR w M β (look st.heap) k ck) (hv:AR w M β (look st.heap) v cv):aO P w0 Pr M0 β st a w d (vH h' m k v) (do Instr.entryStore t cm ck cv;pure .skip):=by
  unfold vH
  split
  · rename_i s j n v
    split
    · rename_i u es hl0
      have hl:=hsub _ _ hl0
      refine aO.chk fun hb=>?_
      simp only[qBa,qDa]at hb
      obtain⟨hb1,hb2,hb3⟩:=hb
      cases hm with
      | EG _ _ _ _ _ g1=>rw[hl]at g1;cases g1
      | vK _ _ g1=>rw[hl]at g1;cases g1
      | EF _ u' es' b o g1 g2 =>
       cases r.heap s _ hl with
       | mp _ _ b' o' E n' k1 k2 k3 k4 =>
        rw[g2]at k1;cases k1
        cases hk with
        | p _ _ hk =>
        cases hk with
        | int _ _ =>
        cases hv with
        | p _ _ hv =>
        have NS:(getObj b).run P w=.ok (.map E n') w:=by simp[getObj,Sem.run,k2]
        have hset:∀ o':Obj,(setObj b o').run P w=.ok () { w with heap:=w.heap.setIfInBounds b o' }:=fun o'=>by simp[setObj,Sem.run,k2]
        have hjn:n.toNat<E.size:=by rw[k3.1];omega
        have hfi:E.findIdx? (fun e=>(e.born:Int)==n)=some n.toNat:=by
         have:=find_born k3.2.2.2.2 hjn
         rwa[Int.toNat_of_nonneg hb2]at this
        have run:(Instr.entryStore t (.map (some b)) (.int j n) cv).run P w=.ok () { w with heap:=w.heap.setIfInBounds b (.map (E.modify n.toNat fun e=>{ e with val:=cv }) n') }:=by
         simp only[Instr.entryStore,asInt,asIntOf,Sem.run_bind,qRa,NS,Sem.run_pure,hfi,hset]
        refine aO.ret (h5:=fun _=>lW (.inr ⟨_,hl,rfl⟩)) (nv:=.skip) (c:=undef) (M':=M) (β':=β) (by simp only[Sem.run_bind,run,qRa,Sem.run_pure];rfl) (.inr ⟨rfl,rfl⟩) fun _=>?_
        rw[oW]
        have hw:=r.writeM (es':=es.set n.toNat ((es.getD n.toNat (.nil,.nil)).1,v)) (w':={ w with heap:=w.heap.setIfInBounds b (.map (E.modify n.toNat fun e=>{ e with val:=cv }) n') }) hl g2 k2 rfl rfl rfl rfl (by
         have:=tY k3 (i:=n.toNat) (f:=fun e=>{ e with val:=cv }) (fun _=>rfl)
         simpa using this) (by
         intro hmono i p e hi he
         rw[List.getElem?_set]at hi
         rw[Array.getElem?_modify]at he
         by_cases hij:n.toNat=i
         · rw[if_pos hij,if_pos (by omega)]at hi
           rw[if_pos hij]at he
           obtain⟨e0,he0,rfl⟩:=Option.map_eq_some_iff.1 he
           cases hi
           have hi':es[i]?=some (es.getD n.toNat (.nil,.nil)):=by
            rw[hij,qLb,qLd (by omega)];rfl
           exact⟨hmono _ _ (k4 i _ e0 hi' he0).1,hmono _ _ hv⟩
         · rw[if_neg hij]at hi
           rw[if_neg hij]at he
           exact⟨hmono _ _ (k4 i p e hi he).1,hmono _ _ (k4 i p e hi he).2⟩)
        exact hw.setEnv d (v:=.undef) (c:=undef) (.undef _)
    · exact aO.fail
  · exact aO.fail
end
end Go.Skm
namespace Go.Skm
section
variable {P:Program} {T:Tab} {w0:Base} {Pr M0 M:Nat→Prop} {β:Nat→Option (Nat × Nat)} {st:St} {a:Act} {w:World} {o:Oper}
theorem Rel.jK (r:Rel w0 Pr M0 M β st a w):∀ (l:List Operand),lV w M β (look st.heap) (Skm.jK st.env l) (l.map a.eval)
 | []=>⟨rfl,fun i x c h=>by simp[Skm.jK]at h⟩
 | x::l=>by
  obtain⟨h1,h2⟩:=r.jK l
  refine⟨by simp[Skm.jK,h1],fun i y c hy hc=>?_⟩
  cases i with
  | zero=>simp[Skm.jK]at hy hc;subst hy hc;exact r.aP x
  | succ i=>simp only[Skm.jK,List.map_cons,List.getElem?_cons_succ]at hy hc;exact h2 i y c hy hc
theorem Rel.JI (r:Rel w0 Pr M0 M β st a w) (l:Array Operand):lV w M β (look st.heap) (Skm.jK st.env l.toList) (l.map a.eval).toList:=by
 rw[Array.toList_map];exact r.jK l.toList
theorem Rel.iq (r:Rel w0 Pr M0 M β st a w):∀ (l:List (Nat × Operand)),Ia w M β (look st.heap) (Skm.iq st.env l) (l.map fun (i,x)=>(i,a.eval x))
 | []=>⟨rfl,fun i x c h=>by simp[Skm.iq]at h⟩
 | (n,x)::l=>by
  obtain⟨h1,h2⟩:=r.iq l
  refine⟨by simp[Skm.iq,h1],fun i y c hy hc=>?_⟩
  cases i with
  | zero=>simp[Skm.iq]at hy hc;subst hy hc;exact⟨rfl,r.aP x⟩
  | succ i=>simp only[Skm.iq,List.map_cons,List.getElem?_cons_succ]at hy hc;exact h2 i y c hy hc
theorem Rel.ER (r:Rel w0 Pr M0 M β st a w) (l:Array (Nat × Operand)):Ia w M β (look st.heap) (Skm.iq st.env l.toList) (l.map fun (i,x)=>(i,a.eval x)).toList:=by
 rw[Array.toList_map];exact r.iq l.toList
theorem Rel.lT (r:Rel w0 Pr M0 M β st a w) (x:Option Operand):Qs w M β (look st.heap) (Skm.lT st.env x) (x.map a.eval):=by
 cases x with
 | none=>exact True.intro
 | some x=>exact r.aP x
theorem dF.fail:dF P w0 Pr M0 β st a w o .fail:=⟨fun _ _ _ _ hk=>by simp[DT.run]at hk⟩
theorem dF.val (r:Rel w0 Pr M0 M β st a w) {D:DT} {sem:Sem Value} (h:aj P w M β (look st.heap) D sem) (e:execOp a.eval o=(do pure (.value (← sem)))):dF P w0 Pr M0 β st a w o D :=
 aO.op (by rw[e];exact aO.Qu r h)
theorem aO.XZ {d:Option Nat} {D:DT} {s1 s2:Sem Next} (h:aO P w0 Pr M0 β st a w d D s1) (e:s2.run P w=s1.run P w):aO P w0 Pr M0 β st a w d D s2 :=
 ⟨fun α k q hk=>by rw[e];exact h.Zu α k q hk⟩
theorem dF.of {D:DT} {sem:Sem Next} (h:aO P w0 Pr M0 β st a w o.dst D sem) (e:execOp a.eval o=sem):dF P w0 Pr M0 β st a w o D :=
 aO.op (by rw[e];exact h)
theorem abw (r : Rel w0 Pr M0 M β st a w) {d : Nat} {sa : Bool} {ks : List Kd} :
    aO P w0 Pr M0 β st a w (some d) (.ret { val:=.slice d ks.length 0 0,mD:=[(d,.arr sa ks [])],new:=[d] }) (pure (.value (.slice none 0 0))):=by
  refine aO.ret (nv:=.value (.slice none 0 0)) (c:=.slice none 0 0) (w':=w) (M':=M) (β':=fun x=>if x=d then none else β x) (by simp) (.inl rfl) (fun _=>?_) (fun hf=>ql (ss:=[]) hf)
  have r1:Rel w0 Pr M0 M β (st.strike (present st.heap [d]++[])) a w:=r.strike _ (fun b h=>h) fun b h=>.inl h
  have h0:look (st.strike (present st.heap [d]++[])).heap d=none:=BU (by simp)
  rw[D6]
  generalize st.strike (present st.heap [d]++[])=st1 at r1 h0
  have r2:=r1.lay (s:=d) (blk:=.arr sa ks []) h0 (p:=none) (fun b o h=>by cases h) (.gY _ _)
  refine r2.setEnv (some d) ?_
  exact .sliceE d 0 sa ks [] none (by simp[aZ]) (by simp)
theorem MC (ok : bJ P T) {C : aA} (hC : fZ P T w0.gl C) (r : Rel w0 Pr M0 M β st a w) {h' : Nat → Option aJ} (hsub : ∀ s b,h' s = some b → look st.heap s = some b) {f : Nat} {args : List AV} {aF : Array Value}
    (hargs:lV w M β (look st.heap) args aF.toList) (he:(execOp a.eval o).run P w=(callFunc f aF).run P w):dF P w0 Pr M0 β st a w o (vI T C h' o.dst f args):=by
  unfold vI
  cases hp:(iY T f).Bd.is with
  | true=>exact ZL (C:=C) ok hC r hsub hp hargs he
  | false =>
  simp only[cond_false]
  cases D7:(iY T f).vcall with
  | true=>exact abv ok hC r hsub D7 hargs he
  | false =>
  simp only[cond_false]
  cases hd:o.dst with
  | none=>simp only[oO];exact dF.fail
  | some d =>
   cases hf:bI T.funcs f with
   | none=>simp only[oO,hf];exact dF.fail
   | some fi =>
    rw[← hd]
    cases hm:fi.cfg.DR with
    | false=>exact XQ ok hC r hsub hd hf hm hargs he
    | true =>
     simp only[oO,hd,hf,hm]
     exact dF.fail
theorem Gn {ρ : Operand → Value} {dst : Option Tmp} {b : Builtin} {args : Array Operand} {ts : Array TypeId} {type : TypeId} {pos : String} {after : Array Edge} {guard : Option (Nat × Bool)} :
    execOp ρ ⟨dst,.call ⟨.builtin b,args,ts⟩,type,pos,after,guard⟩=builtin b ts type (args.map fun | .const _=>true | _=>false) (args.map ρ):=rfl
theorem MF {ρ : Operand → Value} {dst : Option Tmp} {fo : Operand} {args : Array Operand} {ts : Array TypeId} {type : TypeId} {pos : String} {after : Array Edge} {guard : Option (Nat × Bool)} {f : Nat} {vs : Array Value} (h : ρ fo = .func (.func f) #[] vs) :
    (execOp ρ ⟨dst,.call ⟨.value fo,args,ts⟩,type,pos,after,guard⟩)=callFunc f (args.map ρ++vs):=by
  simp only[execOp,resolve,h,Deferred.ofValue]
  simp[invoke]
theorem lV.append {w:World} {M:Nat→Prop} {β:Nat→Option (Nat × Nat)} {h:Nat→Option aJ}:∀ {xs ys:List AV} {cs ds:List Value},lV w M β h xs cs→lV w M β h ys ds→lV w M β h (xs++ys) (cs++ds)
 | [],ys,[],ds,_,h2=>h2
 | x::xs,ys,c::cs,ds,h1,h2=>by
  obtain⟨g1,g2⟩:=h1.cons
  obtain⟨k1,k2⟩:=g2.append h2
  refine⟨by simp[k1],fun i y e hy he=>?_⟩
  cases i with
  | zero=>simp at hy he;subst hy he;exact g1
  | succ i=>simp at hy he;exact k2 i y e hy he
 | [],_,_::_,_,h1,_=>by have:=h1.1;simp at this
 | _::_,_,[],_,h1,_=>by have:=h1.1;simp at this
theorem adp (ok : bJ P T) {C : aA} (hC : fZ P T w0.gl C) (r : Rel w0 Pr M0 M β st a w) {h' : Nat → Option aJ} (hsub : ∀ s b,h' s = some b → look st.heap s = some b) :
    dF P w0 Pr M0 β st a w o (bY T C st.env h' o):=by
  have hh:=r.heap
  obtain⟨dst,op,type,pos,after,guard⟩:=o
  cases op with
  | move x=>exact dF.of (sem:=pure (.value (a.eval x))) (aO.ret (nv:=.value (a.eval x)) (by simp) (.inl rfl) (fun _=>r.setEnv dst (r.aP x)) (fun _ _ _=>rfl) (fun _=>Di)) rfl
  | assign x =>
   have plain:aO P w0 Pr M0 β st a w dst (.ret { val:=Skm.aP st.env x }) (pure (.value (a.eval x))) :=
    aO.ret (nv:=.value (a.eval x)) (by simp) (.inl rfl) (fun _=>r.setEnv dst (r.aP x)) (fun _ _ _=>rfl) (fun _=>Di)
   simp only[bY]
   split
   · exact dF.of (abw r) rfl
   · exact dF.of plain rfl
  | pick c x y=>
   refine dF.of ((aO.Qu r (Zw (r.aP c) (r.aP x) (r.aP y))).XZ (s2:=do pure (.value (if ← asBool (a.eval c) then a.eval x else a.eval y))) ?_) rfl
   simp only[Sem.run_bind]
   cases (asBool (a.eval c)).run P w<;>simp
  | alloc t=>exact dF.of (XG ok r) rfl
  | box t v=>exact dF.of (abo r (r.aP v)) rfl
  | build t ps=>exact dF.val r (XD ok (r.ER ps)) rfl
  | buildSlice t len ps =>
   simp only[bY]
   cases hf:Wi T dst with
   | true=>exact dF.of (NM ok r hsub (r.ER ps)) rfl
   | false=>exact dF.of (LJ ok r hsub (r.ER ps)) rfl
  | load t x=>exact dF.val r (SK ok hsub hh (r.aP x)) rfl
  | store t x v=>exact dF.of (XJ ok r hsub (r.aP x) (r.aP v)) rfl
  | binOp op t x y _=>exact dF.val r (abm ok x y (r.aP x) (r.aP y)) rfl
  | unOp op _ x=>exact dF.val r (adi (r.aP x)) rfl
  | convert s t x=>exact dF.of (SS ok r hsub (r.aP x)) rfl
  | makeFunc fn first caps=>exact dF.val r (Qw (r.JI first) (r.JI caps)) rfl
  | makeSlice t l c=>exact dF.of (NP ok r (r.aP l) (r.aP c)) rfl
  | makeMap t x=>exact dF.of (Tj ok r (r.lT x)) rfl
  | lookup t m k b=>exact dF.val r (Vf ok hsub hh (r.aP m) (r.aP k)) rfl
  | mapEntry t m k=>exact dF.of (QE ok r hsub (r.aP m) (r.aP k)) rfl
  | entryStore t m k v=>exact dF.of (MB (t:=t) r hsub (r.aP m) (r.aP k) (r.aP v)) rfl
  | insert t m k v=>exact dF.of (D9 ok r hsub (r.aP m) (r.aP k) (r.aP v)) rfl
  | mapUpdate t m k v=>exact dF.of (D9 ok r hsub (r.aP m) (r.aP k) (r.aP v)) rfl
  | slice t x lo hi mx =>
   simp only[bY]
   split
   · exact dF.fail
   · split
     · exact dF.fail
     · rename_i hmh
       refine dF.val r (XE ok (r.aP x) (r.lT lo) (r.lT hi) (r.lT mx) ?_) rfl
       intro h
       cases mx with
       | none=>simp[Skm.lT]at h
       | some m =>
        cases hi with
        | none=>exact absurd rfl (hmh m rfl)
        | some _=>rfl
  | fieldAddr t x f=>exact dF.val r (NJ ok (r.aP x)) rfl
  | field t x f=>exact dF.val r (XC ok (r.aP x)) rfl
  | indexAddr t x i=>exact dF.val r (NK ok (r.aP x) (r.aP i)) rfl
  | index t x i=>exact dF.val r (XF ok (r.aP x) (r.aP i)) rfl
  | extract x i=>exact dF.val r (SH (r.aP x)) rfl
  | call c =>
   obtain⟨callee,args,argTypes⟩:=c
   simp only[bY]
   split
   · -- len
     split
     · rename_i x t ts h1 h2
       have e1:args=#[x]:=by rw[← Array.toList_inj];exact h1
       have e2:argTypes[0]?=some t:=by rw[← Array.getElem?_toList,h2];rfl
       subst e1
       exact dF.val r (abn ok hsub hh e2 (ty:=type) (r.aP x)) (by rw[Gn];simp[builtin])
     · exact dF.fail
   · -- append
     split
     · rename_i x y t t2 h1 h2
       have e1:args=#[x,y]:=by rw[← Array.toList_inj];exact h1
       have e2:argTypes=#[t,t2]:=by rw[← Array.toList_inj];exact h2
       subst e1 e2
       exact dF.of (U5 ok r hsub (ty:=type) (ts:=#[t,t2]) rfl rfl (r.aP x) (r.aP y)) (by rw[Gn];simp[builtin])
     · exact dF.fail
   · rename_i fo
     have hfo:=r.aP fo
     split
     · rename_i f caps hv
       rw[hv]at hfo
       have:∃ vs:Array Value,a.eval fo=.func (.func f) #[] vs∧lV w M β (look st.heap) (caps.map .p) vs.toList:=by
        generalize a.eval fo=c at hfo
        cases hfo with
        | p _ _ hv =>
         cases hv with
         | fn _ _ vs hn hc =>
          refine⟨vs,rfl,by simp[hn],fun i x c hx hy=>?_⟩
          simp only[List.getElem?_map,Option.map_eq_some_iff]at hx
          obtain⟨y,hx,rfl⟩:=hx
          have:=hc i y hx
          rw[Array.getElem?_toList]at hy
          rw[qAb,hy]at this
          exact .p _ _ this
       obtain⟨vs,h1,h2⟩:=this
       refine MC (o:=⟨dst,.call ⟨.value fo,args,argTypes⟩,type,pos,after,guard⟩) ok hC r hsub (aF:=args.map a.eval++vs) ?_ (by rw[MF h1])
       rw[Array.toList_append]
       exact(r.JI args).append h2
     · rename_i f caps hv
       rw[hv]at hfo
       have:∃ vs:Array Value,a.eval fo=.func (.func f) #[] vs∧lV w M β (look st.heap) caps vs.toList:=by
        generalize a.eval fo=c at hfo
        cases hfo with
        | fn _ _ vs hn hc =>
         refine⟨vs,rfl,by simp[hn],fun i x c hx hy=>?_⟩
         have:=hc i x hx
         rw[Array.getElem?_toList]at hy
         rw[qAb,hy]at this
         exact this
       obtain⟨vs,h1,h2⟩:=this
       refine MC (o:=⟨dst,.call ⟨.value fo,args,argTypes⟩,type,pos,after,guard⟩) ok hC r hsub (aF:=args.map a.eval++vs) ?_ (by rw[MF h1])
       rw[Array.toList_append]
       exact(r.JI args).append h2
     · exact dF.fail
   · exact dF.fail
  | _=>exact dF.fail
end
end Go.Skm
namespace Go.Skm
section
variable {α:Type}
theorem rJ (m:Nat) (k:Nat→Option α):nR m k=k m:=by cases m<;>rfl
theorem Tq (n:Int) (k:Int→Option α):KY n k=k n:=by cases n<;>simp[KY,rJ]
mutual
theorem ES (b:Bool):∀ (v:PV) (k:PV→Option α),je b v k=k v
 | .bool c,k=>by cases b<;>cases c<;>simp[je]
 | .int j n,k=>by cases b<;>simp[je,Tq]
 | .str s,k=>by simp[je]
 | .agg cs,k=>by simp[je,jk b cs]
 | .list a ks xs,k=>by cases b<;>simp[je,jk _ xs]
 | .full a ks xs,k=>by cases b<;>simp[je,jk _ xs]
 | .nil,k=>by simp[je]
 | .fn f cs,k=>by cases b<;>simp[je,jk _ cs]
 | .ref cs,k=>by simp[je,jk b cs]
 | .yQ,k=>by simp[je]
 | .nH,k=>by simp[je]
 | .ifc,k=>by simp[je]
 | .Ap,k=>by simp[je]
 | .Es ks vs,k=>by simp[je]
 | .Ho,k=>by simp[je]
theorem jk (b:Bool):∀ (v:List PV) (k:List PV→Option α),jX b v k=k v
 | [],k=>by simp[jX]
 | v::r,k=>by simp[jX,ES b v,jk b r]
end
mutual
theorem ET (b:Bool):∀ (v:AV) (k:AV→Option α),jD b v k=k v
 | .undef,k=>by simp[jD]
 | .p v,k=>by cases b<;>simp[jD,ES]
 | .slice s z o l,k=>by cases b<;>simp[jD,rJ]
 | .bslice s o l,k=>by cases b<;>simp[jD,rJ]
 | .ptr s i o,k=>by cases b<;>simp[jD,rJ]
 | .pI a ks x o,k=>by cases b<;>simp[jD,rJ,ES]
 | .fn f cs,k=>by simp[jD,fJ b cs]
 | .agg cs,k=>by simp[jD,fJ b cs]
 | .nJ cs,k=>by simp[jD,fJ b cs]
 | .fresh a ks xs,k=>by cases b<;>simp[jD,jk]
 | .zq,k=>by simp[jD]
 | .mref s,k=>by simp[jD]
theorem fJ (b:Bool):∀ (v:List AV) (k:List AV→Option α),lu b v k=k v
 | [],k=>by simp[lu]
 | v::r,k=>by simp[lu,ET b v,fJ b r]
end
theorem Tt:∀ (v:List AV) (k:List AV→Option α),spine v k=k v
 | [],k=>rfl
 | v::r,k=>by simp[spine,Tt r]
theorem I5 (b:Bool):∀ (v:aJ) (k:aJ→Option α),pV b v k=k v
 | .box cs,k=>by simp[pV,fJ]
 | .arr a ks xs,k=>by cases b<;>simp[pV,jk]
 | .log on xs,k=>by cases b<;>simp[pV,jk]
 | .tb t c0 c1,k=>by simp[pV,ET]
 | .mp t es,k=>by simp[pV]
 | .br e xs,k=>by cases b<;>simp[pV,jk]
theorem iM (b:Bool):∀ (v:List aJ) (k:List aJ→Option α),qE b v k=k v
 | [],k=>rfl
 | v::r,k=>by simp[qE,I5,iM b r]
theorem I7 (b:Bool):∀ (v:List (Nat × aJ)) (k:List (Nat × aJ)→Option α),FY b v k=k v
 | [],k=>rfl
 | (s,x)::r,k=>by simp[FY,I5,I7 b r]
theorem O1:∀ (v:Heap) (k:Heap→Option α),Qk v k=k v
 | [],k=>rfl
 | (s,x)::r,k=>by simp[Qk,O1 r]
theorem aC (st:St) (k:St→Option α):dU st k=k st:=by simp[dU,Tt,O1]
theorem Tv (b:Bool) (st:St) (d:Option Nat) (e:Eff) (k:St→Option α):FZ b st d e k=k (st.apply d e):=by
 simp[FZ,ET,I7,aC]
theorem DT.run_bind:∀ (D:DT) (k:Eff→Option α),D.run k=(D.run some).bind k
 | .fail,k=>rfl
 | .ret e,k=>rfl
 | .ite c x y,k=>by cases c<;>simp[DT.run,DT.run_bind x k,DT.run_bind y k]
 | .call o f,k=>by
  cases o with
  | none=>rfl
  | some r=>simp only[DT.run];exact DT.run_bind (f r) k
end
section
variable (T:Tab) (C:aA)
def wG (all:List Oper) (o:Oper) (env:List AV) (h:Nat→Option aJ):Option (Option Eff) :=
 match o.guard with
 | none=>((bY T C env h o).run some).map some
 | some (g,want) =>
  match oP all g with
  | none=>none
  | some t =>
   match env.getD t .undef with
   | .p (.bool b)=>if b=want then((bY T C env h o).run some).map some else some none
   | .nJ []=>some none
   | _=>none
def step1 (draw:Bool) (hd:List Nat) (all:List Oper) (o:Oper) (st:St):Option St :=
 match wG T C all o st.env (ji hd (look st.heap)) with
 | none=>none
 | some none=>some { st with env:=setEnv st.env o.dst (.nJ []) }
 | some (some e)=>if(gU (e.new++e.xE)&&dI draw (aS T all o) (fG all o) st.heap e)=true then some (st.apply o.dst e) else none
theorem set_self {env:List AV} {t:Nat} {v:AV} (h:env.getD t .undef=v) (hv:v≠.undef):env.set t v=env:=by
 apply List.ext_getElem?
 intro i
 by_cases hi:i=t
 · subst hi
   by_cases hl:i<env.length
   · have : env[i]? = some v := by
       rw[qLb,qLd hl]at h
       simp at h;simp[hl,h]
     rw[this];simp[hl]
   · rw[qLb,List.getElem?_eq_none (by omega)]at h
     exact absurd h.symm hv
 · rw[List.getElem?_set_ne (Ne.symm hi)]
def guardOf (all:List Oper) (o:Oper) (env:List AV):Option Bool :=
 match o.guard with
 | none=>some true
 | some (g,want) =>
  match oP all g with
  | none=>none
  | some t =>
   match env.getD t .undef with
   | .p (.bool b)=>some (b==want)
   | .nJ []=>some false
   | _=>none
theorem MG (all : List Oper) (o : Oper) (env : List AV) (h : Nat → Option aJ) : wG T C all o env h = (match guardOf all o env with
    | none=>none
    | some false=>some none
    | some true=>((bY T C env h o).run some).map some):=by
  unfold wG guardOf
  cases o.guard with
  | none=>rfl
  | some gw =>
   obtain⟨g,want⟩:=gw
   simp only
   cases oP all g with
   | none=>rfl
   | some t =>
    simp only
    split
    · rename_i b hb
      cases b<;>cases want<;>rfl
    · rfl
    · rfl
theorem O3 {α : Type} {draw : Bool} {hd : List (List Nat)} {all : List Oper} {o : Oper} {rest : List Oper} {j : Nat} {st : St} {k : St → Option α} :
    dA T C draw hd all (o::rest) j st k=(match guardOf all o st.env with
     | none=>none
     | some false=>dA T C draw hd all rest (j+1) { st with env:=setEnv st.env o.dst (.nJ []) } k
     | some true=>match ny draw st o with
      | some (xs,vs)=>fork (dA T C draw hd all rest (j+1) (iU st o.dst xs vs false) k) (dA T C draw hd all rest (j+1) (iU st o.dst xs vs true) k)
      | none=>((bY T C st.env (ji (hd.getD j []) (look st.heap)) o).run some).bind fun e =>
       if(gU (e.new++e.xE)&&dI draw (aS T all o) (fG all o) st.heap e)=true then dA T C draw hd all rest (j+1) (st.apply o.dst e) k else none):=by
  have go : ∀ st : St, (match ny draw st o with
        | some (xs,vs)=>fork (dU (iU st o.dst xs vs false) fun st=>dA T C draw hd all rest (j+1) st k) (dU (iU st o.dst xs vs true) fun st=>dA T C draw hd all rest (j+1) st k)
        | none=>(bY T C st.env (ji (hd.getD j []) (look st.heap)) o).run fun e =>
        bif gU (e.new++e.xE)&&dI draw (aS T all o) (fG all o) st.heap e then FZ T.strict st o.dst e fun st=>dA T C draw hd all rest (j+1) st k else none) =
      (match ny draw st o with
        | some (xs,vs)=>fork (dA T C draw hd all rest (j+1) (iU st o.dst xs vs false) k) (dA T C draw hd all rest (j+1) (iU st o.dst xs vs true) k)
        | none=>((bY T C st.env (ji (hd.getD j []) (look st.heap)) o).run some).bind fun e =>
         if(gU (e.new++e.xE)&&dI draw (aS T all o) (fG all o) st.heap e)=true then dA T C draw hd all rest (j+1) (st.apply o.dst e) k else none):=by
    intro st
    cases ny draw st o with
    | some p=>obtain⟨xs,vs⟩:=p;simp only[aC]
    | none =>
     simp only
     rw[DT.run_bind]
     congr 1
     funext e
     simp only[Tv]
     cases gU (e.new++e.xE)&&dI draw (aS T all o) (fG all o) st.heap e<;>simp
  rw[dA]
  unfold guardOf
  cases hg:o.guard with
  | none=>exact go st
  | some gw =>
   obtain⟨g,want⟩:=gw
   simp only
   cases hd':oP all g with
   | none=>rfl
   | some t =>
    simp only
    by_cases hx:∃ b,st.env.getD t .undef=.p (.bool b)
    · obtain⟨b,hb⟩:=hx
      have hs:=set_self hb (by simp)
      rw[hb]
      cases b
      · simp only[cond_false]
        rw[hs]
        cases want
        · simp only[cond_false];exact go st
        · simp only[cond_true,aC];rfl
      · simp only[cond_true]
        rw[hs]
        cases want
        · simp only[cond_false,aC];rfl
        · simp only[cond_true];exact go st
    · by_cases hh:st.env.getD t .undef=.nJ []
      · rw[hh]
        simp only[aC]
      · split
        · rename_i b hb;exact absurd ⟨b,hb⟩ hx
        · rename_i hb;exact absurd hb hh
        · have : (match st.env.getD t .undef with
            | .p (.bool b)=>some (b==want)
            | .nJ []=>some false
            | _=>none:Option Bool)=none:=by
            split
            · rename_i b hb;exact absurd ⟨b,hb⟩ hx
            · rename_i hb;exact absurd hb hh
            · rfl
          rw[this]
theorem mP {α : Type} {draw : Bool} {hd : List (List Nat)} {all : List Oper} {o : Oper} {rest : List Oper} {j : Nat} {st : St} {k : St → Option α} (hy : ny draw st o = none) :
    dA T C draw hd all (o::rest) j st k=(step1 T C draw (hd.getD j []) all o st).bind fun st'=>dA T C draw hd all rest (j+1) st' k:=by
  rw[O3,hy]
  unfold step1
  rw[MG]
  cases guardOf all o st.env with
  | none=>rfl
  | some b =>
   cases b with
   | false=>rfl
   | true =>
    simp only
    cases (bY T C st.env (ji (hd.getD j []) (look st.heap)) o).run some with
    | none=>rfl
    | some e =>
     simp only[Option.bind_some,Option.map_some]
     cases gU (e.new++e.xE)&&dI draw (aS T all o) (fG all o) st.heap e<;>simp
theorem nD {α : Type} {draw : Bool} {hd : List (List Nat)} {all : List Oper} {o : Oper} {rest : List Oper} {j : Nat} {st : St} {k : St → Option α} {xs vs : List PV} (hy : ny draw st o = some (xs,vs)) :
    dA T C draw hd all (o::rest) j st k=(match guardOf all o st.env with
     | none=>none
     | some false=>dA T C draw hd all rest (j+1) { st with env:=setEnv st.env o.dst (.nJ []) } k
     | some true=>fork (dA T C draw hd all rest (j+1) (iU st o.dst xs vs false) k) (dA T C draw hd all rest (j+1) (iU st o.dst xs vs true) k)):=by
  rw[O3,hy]
theorem Dp {α:Type} {no yes:Option α} {x:α} (h:fork no yes=some x):∃ r,no=some r∧yes=some x:=by
 cases no with
 | none=>cases h
 | some r=>exact⟨r,rfl,h⟩
theorem WM {α:Type} {no yes:Option α} {x r:α} (h1:no=some r) (h3:yes=some x):fork no yes=some x:=by
 subst h1 h3;rfl
end
structure Cx where
 w0:Base
 Pr:Nat→Prop
 M0:Nat→Prop
 QF:Nat→Option (Nat × Nat)
 hp0:Heap
 Wr:Nat→Prop
 t0:Array Value
 rd:Option Nat
 L0:List (Nat × Obj)
 nm:Nat
 Ys:Nat→Prop:=fun _=>False
 yv:Value:=undef
def kN (β:Nat→Option (Nat × Nat)) (hp:Heap) (b:Nat):Prop:=∃ s o,(look hp s).isSome=true∧β s=some (b,o)
def rV (D:Nat):Deferred:={ target:=.collected D,args:=#[] }
def zk (hp:Heap):Prop:=∀ xs,look hp ah≠some (.log true xs)
structure Fix (cx:Cx) (M:Nat→Prop) (β:Nat→Option (Nat × Nat)) (hp:Heap) (a:Act) (w:World) (L:List (Nat × Obj)) (ds:List Nat):Prop where
 lies:∀ p∈L,w.heap[p.1]?=some p.2∧¬ kN β hp p.1∧¬ M p.1
 sub:∀ p∈cx.L0,p∈L
 marks:a.defers=ds.map rV
 nodup:ds.Nodup
 mark:∀ D∈ds,(D,Obj.deferred (some []))∈L∧cx.nm≤D
 rd:∀ l,cx.rd=some l→∃ r,(l,Obj.loop r)∈L
 size:a.tmps.size=cx.t0.size
 tmps:∀ t,¬ cx.Wr t→a.tmps.getD t undef=cx.t0.getD t undef
 one:¬ zk cx.hp0→ds=[]
 yl:∀ t,cx.Ys t→a.tmps.getD t undef=cx.yv∨a.tmps.getD t undef=undef
 nml:cx.nm≤cx.w0.heap.size
def wX (cx:Cx) (o:Oper):Prop:=(∀ t,o.dst=some t→cx.Wr t)∧∀ t,o.dst=some t→cx.Ys t→∃ s,cx.Ys s∧(o.op=.move (.tmp s)∨o.op=.assign (.tmp s))
def Inv (cx:Cx) (st:St) (a:Act) (w:World):Prop :=
 ∃ M β L ds,Rel cx.w0 cx.Pr cx.M0 M β st a w∧(∀ s,ah≤s→β s=cx.QF s)∧iQ cx.hp0 st.heap∧iH cx.w0.gl cx.w0.drawn w.drawn∧Fix cx M β st.heap a w L ds
section
variable {w0:Base} {Pr M0 M M':Nat→Prop} {β β':Nat→Option (Nat × Nat)} {st st':St} {a a':Act} {w w':World}
theorem Rel.ZQ (r:Rel w0 Pr M0 M β st a w):Rel ⟨w,w0.n0,Nat.le_trans w0.le' r.size,w0.gl⟩ (kN β st.heap) M M β st a w :=
 ⟨r.lC,r.env,r.heap,fun s b o hs hb=>⟨(r.own s b o hs hb).1,(r.own s b o hs hb).2.1,.inr ⟨s,o,hs,hb⟩,(r.own s b o hs hb).2.2.2⟩,r.inj,r.fB,fun _ h=>.inl h,fun _ h=>h,fun _ _ _=>rfl,fun _ _ _ _ h=>h,Nat.le_refl _,rfl,rfl,rfl,r.glob⟩
theorem Rel.Vg (r:Rel w0 Pr M0 M β st a w) {le:w0.n0≤w.heap.size} (r':Rel ⟨w,w0.n0,le,w0.gl⟩ (kN β st.heap) M M' β' st' a' w'):Rel w0 Pr M0 M' β' st' a' w':=by
 have hown:∀ b,kN β st.heap b→w0.heap.size≤b∨Pr b:=fun b ⟨s,o,hs,hb⟩=>(r.own s b o hs hb).2.2.1
 have hk:∀ b,b<w.heap.size→¬ kN β st.heap b→w'.heap[b]?=w.heap[b]?:=r'.keep
 have hsz:w.heap.size≤w'.heap.size:=r'.size
 refine⟨r'.lC,r'.env,r'.heap,fun s b o hs hb=>?_,r'.inj,r'.fB,fun b h=>?_,fun b h=>r'.oD b (r.oD b h),fun b h1 h2=>?_,fun b n h1 h2 h3=>?_,Nat.le_trans r.size hsz,r'.os.trans r.os,r'.tape.trans r.tape,r'.output.trans r.output,r'.glob⟩
 · obtain⟨g1,g2,g3,g4⟩:=r'.own s b o hs hb
   refine⟨g1,g2,?_,g4⟩
   rcases g3 with h | h
   · have h:w.heap.size≤b:=h
     have:=r.size;left;omega
   · exact hown b h
 · rcases r'.jQ b h with h | ⟨h,h'⟩
   · exact r.jQ b h
   · refine .inr ⟨h,?_⟩
     rcases h' with h' | h'
     · have h':w.heap.size≤b:=h'
       have:=r.size;left;omega
     · exact hown b h'
 · have hb:b<w.heap.size:=by have:=r.size;omega
   rw[hk b hb fun h=>?_,r.keep b h1 h2]
   rcases hown b h with h | h
   · omega
   · exact h2 h
 · have hb:b<w.heap.size:=by have:=r.size;omega
   have hr:=r.room b n h1 h2 h3
   by_cases ho:kN β st.heap b
   · exact r'.room b n h1 ho hr
   · exact hr.of_block (hk b hb ho)
end
theorem put_defers (a:Act) (d:Option Nat) (c:Value):(a.put d c).defers=a.defers:=by cases d<;>rfl
theorem Fh (a:Act) (d:Option Nat) (c:Value):(a.put d c).tmps.size=a.tmps.size:=by cases d<;>simp[Act.put]
theorem QG {a:Act} {d:Option Nat} {c:Value} {t:Nat} (h:d≠some t):(a.put d c).tmps.getD t undef=a.tmps.getD t undef:=by
 cases d with
 | none=>rfl
 | some d =>
  have:d≠t:=fun e=>h (by rw[e])
  simp[Act.put,qAe this]
section
variable {P:Program} {T:Tab} {cx:Cx} {st st':St} {a:Act} {w:World} {o:Oper}
theorem Fix.put {M:Nat→Prop} {β:Nat→Option (Nat × Nat)} {hp:Heap} {L:List (Nat × Obj)} {ds:List Nat} (f:Fix cx M β hp a w L ds) {d:Option Nat} (hd:∀ t,d=some t→cx.Wr t) (c:Value) (hy:∀ t,d=some t→cx.Ys t→c=cx.yv∨c=undef):Fix cx M β hp (a.put d c) w L ds :=
 ⟨f.lies,f.sub,by rw[put_defers];exact f.marks,f.nodup,f.mark,f.rd,by rw[Fh];exact f.size,fun t ht=>by rw[QG fun e=>ht (hd t e)];exact f.tmps t ht,f.one,fun t ht=>by
   by_cases e:d=some t
   · subst e
     by_cases hl:t<a.tmps.size
     · have:(a.put (some t) c).tmps.getD t undef=c:=by simp[Act.put,hl]
       rw[this];exact hy t rfl ht
     · right
       simp[Act.put,Nat.le_of_not_lt hl]
   · rw[QG e];exact f.yl t ht,f.nml⟩
theorem Fix.move {M M':Nat→Prop} {β β':Nat→Option (Nat × Nat)} {hp hp':Heap} {w':World} {L:List (Nat × Obj)} {ds:List Nat} (f:Fix cx M β hp a w L ds) (h:∀ p∈L,w'.heap[p.1]?=w.heap[p.1]?∧¬ kN β' hp' p.1∧¬ M' p.1):Fix cx M' β' hp' a w' L ds :=
 ⟨fun p hp=>⟨(h p hp).1.trans (f.lies p hp).1,(h p hp).2⟩,f.sub,f.marks,f.nodup,f.mark,f.rd,f.size,f.tmps,f.one,f.yl,f.nml⟩
theorem Fix.less {M:Nat→Prop} {β β':Nat→Option (Nat × Nat)} {hp hp':Heap} {w':World} {L:List (Nat × Obj)} {ds:List Nat} (f:Fix cx M β hp a w L ds) (h:∀ p∈L,w'.heap[p.1]?=w.heap[p.1]?) (ho:∀ b,kN β' hp' b→kN β hp b):Fix cx M β' hp' a w' L ds :=
 f.move fun p hp=>⟨h p hp,fun h'=>(f.lies p hp).2.1 (ho _ h'),(f.lies p hp).2.2⟩
theorem Fix.step {β β' : Nat → Option (Nat × Nat)} {w0 : Base} {Pr M0 M M' : Nat → Prop} {w' : World} {a' : Act} {L : List (Nat × Obj)} {ds : List Nat} (f : Fix cx M β st.heap a w L ds) (_r : Rel w0 Pr M0 M β st a w) {le : w0.n0 ≤ w.heap.size}
    (r':Rel ⟨w,w0.n0,le,w0.gl⟩ (kN β st.heap) M M' β' st' a' w'):Fix cx M' β' st'.heap a w' L ds:=by
  refine f.move fun p hp=>?_
  obtain⟨h1,h2,h3⟩:=f.lies p hp
  have hlt:p.1<w.heap.size:=(qAa.1 h1).1
  refine⟨r'.keep p.1 hlt h2,fun ⟨s,o,hs,hb⟩=>?_,fun hm=>?_⟩
  · rcases(r'.own s p.1 o hs hb).2.2.1 with h | h
    · have h:w.heap.size≤p.1:=h
      omega
    · exact h2 h
  · rcases r'.jQ p.1 hm with h | ⟨_,h | h⟩
    · exact h3 h
    · have h:w.heap.size≤p.1:=h
      omega
    · exact h2 h
theorem ZR {U:List Nat} {h:Nat→Option aJ} {s:Nat} {b:aJ} (hh:ji U h s=some b):h s=some b:=by
 unfold ji at hh
 split at hh
 · exact hh
 · simp only at hh
   cases hm:dR s U with
   | true=>rw[hm]at hh;cases hh
   | false=>rw[hm]at hh;exact hh
theorem MH {all:List Oper} {ops:Array Oper} (he:ops.toList=all) {g t:Nat} (hd:oP all g=some t) (i:Inv cx st a w) {b:Bool} (hb:st.env.getD t .undef=.p (.bool b)):yielded ops a.tmps g=some b:=by
 obtain⟨M,β,L,ds,r,_⟩:=i
 subst he
 have h1:=r.slot t
 rw[hb]at h1
 have h2:=h1.zT
 unfold yielded
 unfold oP at hd
 rw[Array.getElem?_toList]at hd
 rw[hd]
 have hlt:t<a.tmps.size:=by
  have:t<st.env.length:=by
   by_cases h:t<st.env.length
   · exact h
   · rw[qLb,List.getElem?_eq_none (by omega)]at hb;cases hb
  have:=r.lC;omega
 have:a.tmps[t]?=some (.bool b):=by
  rw[qAb,qAd hlt]at h2
  rw[qAd hlt];simpa using h2
 simp[this]
theorem Gp {all:List Oper} {ops:Array Oper} (he:ops.toList=all) {g t:Nat} (hd:oP all g=some t) (i:Inv cx st a w) (hb:st.env.getD t .undef=.nJ []):yielded ops a.tmps g=none:=by
 obtain⟨M,β,L,ds,r,_⟩:=i
 subst he
 have h1:=r.slot t
 rw[hb]at h1
 unfold yielded
 unfold oP at hd
 rw[Array.getElem?_toList]at hd
 rw[hd]
 simp only[Option.bind_some]
 cases hx:a.tmps[t]? with
 | none=>rfl
 | some c =>
  rw[qAb,hx]at h1
  simp only[Option.getD_some]at h1
  cases h1 with
  | nJ _ vs hn _=>rfl
theorem QH {C:aA} {env:List AV} {h:Nat→Option aJ} {e:Eff} (h1:(bY T C env h o).run some=some e):∀ c,o.op≠.defer c:=by
 intro c hc
 obtain⟨dst,op,type,pos,after,guard⟩:=o
 subst hc
 simp[bY,DT.run]at h1
theorem X0 {s:Nat} (hop:o.op=.move (.tmp s)∨o.op=.assign (.tmp s)) {rd:Option Nat} {n:Nat} {K:Act→World→Prop} {Q:Exit→Act→World→Prop}:o.wpIn (FW rd) n P a w K Q↔K (a.put o.dst (a.tmps.getD s undef)) w:=by
 have hnd:∀ c,o.op≠.defer c:=fun c hc=>by rcases hop with h | h<;>rw[h]at hc<;>cases hc
 have he:(execOp a.eval o).run P w=.ok (.value (a.tmps.getD s undef)) w:=by
  obtain⟨dst,op,type,pos,after,guard⟩:=o
  rcases hop with h | h<;>(simp only at h;subst h;simp[execOp,Act.eval])
 constructor
 · intro h
   have h2:=h.2
   rw[Oper.semAt_plain (FW rd) a.eval o hnd,he]at h2
   exact h2
 · intro h
   refine uG hnd ?_
   rw[he];exact h
theorem abx (ok : bJ P T) {C : aA} (hC : fZ P T cx.w0.gl C) {draw : Bool} {hd : List Nat} {all : List Oper} {ops : Array Oper} (he : ops.toList = all) (hw : wX cx o) (i : Inv cx st a w)
    (h:step1 T C draw hd all o st=some st') {rd:Option Nat} {n:Nat} {K:Act→World→Prop} (hK:∀ a' w',Inv cx st' a' w'→K a' w') {Q:Exit→Act→World→Prop} :
    if Region.wanted o (yielded ops a.tmps) then o.wpIn (FW rd) n P a w K Q else K (a.put o.dst undef) w:=by
  have key:∀ e,((bY T C st.env (ji hd (look st.heap)) o).run some)=some e→gU (e.new++e.xE)=true→st'=st.apply o.dst e→o.wpIn (FW rd) n P a w K Q:=by
   intro e h1 h2 h3
   obtain⟨M,β,L,ds,r,i1,i2,i3,fx⟩:=i
   have hs:=(adp (w0:=⟨w,cx.w0.n0,Nat.le_trans cx.w0.le' r.size,cx.w0.gl⟩) (o:=o) ok hC r.ZQ (h':=ji hd (look st.heap)) fun s b=>ZR).Zu (QH h1) Eff some e h1 rd n Q
   by_cases hys:∃ t,o.dst=some t∧cx.Ys t
   · obtain⟨t,ht,hyt⟩:=hys
     obtain⟨s,hys,hop⟩:=hw.2 t ht hyt
     rw[X0 hop]at hs ⊢
     obtain⟨_,e',M',β',h5,hdr,h6⟩:=hs
     cases h5
     obtain⟨g1,g2,g3⟩:=h6 h2
     exact hK _ w ⟨M',β',L,ds,by rw[h3];exact r.Vg g1,fun s hs=>(g2 s hs).trans (i1 s hs),by rw[h3];exact i2.trans g3,i3.trans hdr,by rw[h3];exact(fx.step r g1).put hw.1 _ fun _ _ _=>fx.yl s hys⟩
   · refine Oper.wpIn_mono (fun a' w' h4=>?_) hs
     obtain⟨⟨c,rfl⟩,e',M',β',h5,hdr,h6⟩:=h4
     cases h5
     obtain⟨g1,g2,g3⟩:=h6 h2
     exact hK _ w' ⟨M',β',L,ds,by rw[h3];exact r.Vg g1,fun s hs=>(g2 s hs).trans (i1 s hs),by rw[h3];exact i2.trans g3,i3.trans hdr,by rw[h3];exact(fx.step r g1).put hw.1 c fun t h1 h2=>absurd ⟨t,h1,h2⟩ hys⟩
  have skip:st'={ st with env:=setEnv st.env o.dst (.nJ []) }→K (a.put o.dst undef) w:=by
   intro h3
   obtain⟨M,β,L,ds,r,i1,i2,i3,fx⟩:=i
   exact hK _ _ ⟨M,β,L,ds,by rw[h3];exact r.setEnv o.dst (.nJ [] #[] rfl fun i c h=>by simp at h),i1,by rw[h3];exact i2,i3,by rw[h3];exact fx.put hw.1 _ fun _ _ _=>.inr rfl⟩
  have go : ∀ x : Option Eff, x = ((bY T C st.env (ji hd (look st.heap)) o).run some) → (match x.map some with
        | none=>none
        | some none=>some { st with env:=setEnv st.env o.dst (.nJ []) }
        | some (some e)=>if(gU (e.new++e.xE)&&dI draw (aS T all o) (fG all o) st.heap e)=true then some (st.apply o.dst e) else none:Option St)=some st'→o.wpIn (FW rd) n P a w K Q:=by
    intro x hx h
    cases x with
    | none=>simp at h
    | some e =>
     simp only[Option.map_some]at h
     split at h
     · rename_i hc
       simp only[qBa]at hc
       exact key e hx.symm hc.1 (by simpa using h.symm)
     · cases h
  unfold step1 wG at h
  cases hg:o.guard with
  | none =>
   rw[hg]at h
   simp only[Region.wanted,hg,if_true]
   exact go _ rfl h
  | some gw =>
   obtain⟨g,want⟩:=gw
   rw[hg]at h
   simp only at h
   cases hd':oP all g with
   | none=>rw[hd']at h;simp at h
   | some t =>
    rw[hd']at h
    simp only at h
    cases hv:st.env.getD t .undef with
    | p v =>
     cases v with
     | bool b =>
      rw[hv]at h
      simp only at h
      have hy:=MH he hd' i hv
      simp only[Region.wanted,hg,hy]
      by_cases hb:b=want
      · subst hb
        rw[if_pos rfl]at h
        simp only[beq_self_eq_true,if_true]
        exact go _ rfl h
      · rw[if_neg hb]at h
        simp only at h
        have:(some b==some want)=false:=by simpa using hb
        rw[this]
        simp only[Bool.false_eq_true,if_false]
        exact skip (by simpa using h.symm)
     | _=>rw[hv]at h;simp at h
    | nJ cs =>
     cases cs with
     | cons x r=>rw[hv]at h;simp at h
     | nil =>
      rw[hv]at h
      simp only at h
      have hy:=Gp he hd' i hv
      simp only[Region.wanted,hg,hy]
      have:((none:Option Bool)==some want)=false:=rfl
      rw[this]
      simp only[Bool.false_eq_true,if_false]
      exact skip (by simpa using h.symm)
    | _=>rw[hv]at h;simp at h
theorem Vh {hp hp':Heap} (h:zk hp) (hl:iQ hp hp'):zk hp':=by
 intro xs he
 obtain⟨blk,h1,h2⟩:=hl ah (Nat.le_refl _) _ he
 cases blk with
 | box=>exact h2.elim
 | arr=>exact h2.elim
 | tb=>exact h2.elim
 | mp=>exact h2.elim
 | br=>exact h2.elim
 | log on ys=>exact h ys (by rw[h1];cases (show on=true from h2);rfl)
theorem zk.yield (h:zk st.heap) (draw:Bool):ny draw st o=none:=by
 cases draw with
 | true=>rfl
 | false =>
  show yieldOf st o=none
  unfold yieldOf
  split
  · split
    · split
      · split
        · rename_i h1 _;exact absurd h1 (h _)
        · rfl
      · rfl
    · rfl
  · rfl
theorem Inv.afe (i:Inv cx st a w) (h:zk cx.hp0):zk st.heap:=by
 obtain⟨M,β,L,ds,r,i1,i2,i3,fx⟩:=i
 exact Vh h i2
theorem MI (ok : bJ P T) {C : aA} (hC : fZ P T cx.w0.gl C) {α : Type} {draw : Bool} {hd : List (List Nat)} {ops : Array Oper} (hn : zk cx.hp0) {rd : Option Nat} {n : Nat} {Q : Exit → Act → World → Prop} {k : St → Option α} {x : α} (hQ : ∀ st' a' w',k st' = some x → Inv cx st' a' w' → Q .normal a' w') :
    ∀ (l:List Oper) (j:Nat) (st:St) (a:Act) (w:World),(∀ o∈l,wX cx o)→dA T C draw hd ops.toList l j st k=some x→Inv cx st a w→wpListIn (FW rd) n P ops Q l a w
  | [],j,st,a,w,_,h,i=>hQ st a w h i
  | o::rest,j,st,a,w,hw,h,i=>by
   rw[mP _ _ ((i.afe hn).yield draw)]at h
   cases h1:step1 T C draw (hd.getD j []) ops.toList o st with
   | none=>rw[h1]at h;cases h
   | some st1 =>
    rw[h1]at h
    have:=abx ok hC rfl (hw o (by simp)) i h1 (rd:=rd) (n:=n) (K:=wpListIn (FW rd) n P ops Q rest) (fun a' w' i'=>MI ok hC hn hQ rest (j+1) st1 a' w' (fun o ho=>hw o (by simp[ho])) h i') (Q:=Q)
    unfold wpListIn
    split
    · rename_i hw;rw[if_pos hw]at this;exact this
    · rename_i hw;rw[if_neg hw]at this;exact⟨fun _ _=>trivial,this⟩
end
end Go.Skm
namespace Go.Skm
section
variable {T:Tab} {C:aA}
theorem tZ {env env':List AV}:∀ {l:List Operand},(∀ x∈l,aP env x=aP env' x)→jK env l=jK env' l
 | [],_=>rfl
 | x::r,h=>by
  have:=tZ (l:=r) fun y hy=>h y (List.mem_cons_of_mem _ hy)
  simp[jK,h x (by simp),this]
theorem sG {env env':List AV}:∀ {l:List (Nat × Operand)},(∀ x∈l,aP env x.2=aP env' x.2)→iq env l=iq env' l
 | [],_=>rfl
 | (i,x)::r,h=>by
  have:=sG (l:=r) fun y hy=>h y (List.mem_cons_of_mem _ hy)
  simp[iq,h (i,x) (by simp),this]
theorem qV {env env':List AV} {x:Option Operand} (h:∀ y,x=some y→aP env y=aP env' y):lT env x=lT env' x:=by
 cases x with
 | none=>rfl
 | some y=>simp[lT,h y rfl]
theorem QI {env env':List AV} {h:Nat→Option aJ} {o:Oper} (he:∀ x∈o.op.operands,aP env x=aP env' x):bY T C env h o=bY T C env' h o:=by
 obtain⟨dst,op,type,pos,after,guard⟩:=o
 cases op with
 | call c =>
  obtain⟨callee,args,ts⟩:=c
  simp only[Op.operands,Call.operands]at he
  have ha:∀ x∈args.toList,aP env x=aP env' x:=fun x hx=>he x (by simp[Array.mem_toList_iff.1 hx])
  have hl:=tZ ha
  simp only[bY]
  split
  · split
    · rename_i x t r h1 h2
      rw[ha x (by rw[h1];simp)]
    · rfl
  · split
    · rename_i x y t t2 h1 h2
      rw[ha x (by rw[h1];simp),ha y (by rw[h1];simp)]
    · rfl
  · rename_i f
    rw[he f (by simp),hl]
  · rfl
 | build t ps =>
  simp only[Op.operands]at he
  simp only[bY]
  rw[sG fun x hx=>he x.2 (by simp;exact⟨x.1,by simpa using hx⟩)]
 | buildSlice t n ps =>
  simp only[Op.operands]at he
  simp only[bY]
  rw[sG fun x hx=>he x.2 (by simp;exact⟨x.1,by simpa using hx⟩)]
 | makeFunc fn first caps =>
  simp only[Op.operands]at he
  simp only[bY]
  rw[tZ fun x hx=>he x (by simp[Array.mem_toList_iff.1 hx]),tZ (l:=caps.toList) fun x hx=>he x (by simp[Array.mem_toList_iff.1 hx])]
 | slice t x lo hi mx =>
  simp only[Op.operands]at he
  simp only[bY]
  rw[he x (by simp),qV (x:=lo) fun y hy=>he y (by simp[hy]),qV (x:=hi) fun y hy=>he y (by simp[hy]),qV (x:=mx) fun y hy=>he y (by simp[hy])]
 | makeMap t x =>
  simp only[Op.operands]at he
  simp only[bY]
  rw[qV (x:=x) fun y hy=>he y (by simp[hy])]
 | assign x =>
  simp only[Op.operands]at he
  have hx:=he x (by simp)
  simp only[bY]
  split
  · rfl
  · rw[hx]
 | _ =>
  simp only[Op.operands]at he
  simp only[bY]
  try simp at he
  try simp only[he]
theorem EU {t:Nat}:∀ {l:List Operand},Operand.tmp t∈l→t∈tmpsOf l
 | [],h=>by simp at h
 | x::r,h=>by
  rcases List.mem_cons.1 h with rfl | h
  · simp[tmpsOf]
  · have:=EU h
    cases x<;>simp[tmpsOf,this]
def xW (T:Tab) (C:aA) (all:List Oper) (o:Oper) (env:List AV) (h:Nat→Option aJ):Option Eff:=(wG T C all o env h).map fun x=>x.getD { val:=.nJ [] }
theorem Vj {all:List Oper} {o:Oper} {env env':List AV} {h:Nat→Option aJ} (he:∀ t∈pX all o,env.getD t .undef=env'.getD t .undef):wG T C all o env h=wG T C all o env' h:=by
 have hs:bY T C env h o=bY T C env' h o:=QI fun x hx=>by
  cases x with
  | tmp t =>
   show env.getD t .undef=env'.getD t .undef
   exact he t (by unfold pX;exact List.mem_append_left _ (EU (by simpa using hx)))
  | _=>rfl
 unfold wG
 rw[hs]
 cases hg:o.guard with
 | none=>rfl
 | some gw =>
  obtain⟨g,want⟩:=gw
  simp only
  cases hd:oP all g with
  | none=>rfl
  | some t =>
   simp only
   rw[he t (by unfold pX;unfold oP at hd;rw[hg];simp[hd])]
theorem qJ {all:List Oper} {o:Oper} {env env':List AV} {h:Nat→Option aJ} (he:∀ t∈pX all o,env.getD t .undef=env'.getD t .undef):xW T C all o env h=xW T C all o env' h:=by
 unfold xW;rw[Vj he]
theorem QJ {t:TypeId} {x:AV} {h h':Nat→Option aJ} (hm:H7 T t=false):CX T h t x=CX T h' t x:=by
 unfold H7 at hm
 unfold CX
 cases hu:und T t with
 | none=>rfl
 | some d =>
  rw[hu]at hm
  cases d<;>first | (simp at hm;done) | (cases x<;>first | rfl | (rename_i v;cases v<;>rfl))
theorem Tz {all:List Oper} {o:Oper} {env:List AV} {h h':Nat→Option aJ} (hc:aS T all o=.pure):bY T C env h o=bY T C env h' o:=by
 obtain⟨dst,op,type,pos,after,guard⟩:=o
 cases op with
 | call c =>
  obtain⟨callee,args,ts⟩:=c
  cases callee with
  | builtin b =>
   by_cases hlen:b=.len
   · subst hlen
     simp only[aS]at hc
     cases hm:ts.toList.any (H7 T) with
     | true=>rw[hm]at hc;cases hc
     | false =>
      simp only[bY]
      split
      · rename_i x t r h1 h2
        refine QJ ?_
        have:=List.any_eq_false.1 hm t (by rw[h2];simp)
        simpa using this
      · rfl
   · cases b<;>first | rfl | (exact absurd rfl hlen) | (simp only[aS]at hc;cases hb:F5 args.toList all<;>rw[hb]at hc<;>simp at hc;done) | (simp[aS]at hc)
  | value f =>
   cases f with
   | func f =>
    simp only[aS]at hc
    cases hb:(iY T f).DR||(((iY T f).shares&&!(iY T f).quiet)||(iY T f).Bd.writes)<;>rw[hb]at hc<;>simp at hc
   | tmp t =>
    simp only[aS]at hc
    cases ho:Zo T dst<;>rw[ho]at hc<;>simp at hc
   | _=>simp[aS]at hc
  | invoke r n=>simp[aS]at hc
 | slice t x lo hi mx =>
  simp only[aS]at hc
  simp only[bY]
 | store t p v =>
  simp only[aS]at hc
  split at hc<;>first | (rename_i t' _;cases hl:yY T all t' v<;>rw[hl]at hc<;>simp at hc;done) | simp_all
  all_goals (try (rename_i t' _ _;cases hl:yY T all t' v<;>simp_all))
 | assign x =>
  simp only[aS]at hc
  rfl
 | move x=>rfl
 | _=>first | rfl | (simp[aS]at hc)
theorem O4 {all:List Oper} {o:Oper} {env:List AV} {h h':Nat→Option aJ} (hc:aS T all o=.pure):xW T C all o env h=xW T C all o env h':=by
 unfold xW wG;rw[Tz hc (h':=h')]
theorem QK {all:List Oper} {o:Oper} (hc:aS T all o=.const):∃ v,(v=.undef∨∃ x,v=.p x)∧∀ env h,bY T C env h o=.ret { val:=v }:=by
 have val:∀ x,rF x=true→∃ v,(v=.undef∨∃ y,v=.p y)∧∀ env,aP env x=v:=by
  intro x hx
  cases x with
  | tmp t=>simp[rF]at hx
  | global g=>simp[rF]at hx
  | func f=>exact⟨.p (.fn f []),.inr ⟨_,rfl⟩,fun _=>rfl⟩
  | const v =>
   cases hv:ofValue v with
   | none=>exact⟨.undef,.inl rfl,fun env=>by simp[aP,hv]⟩
   | some y=>exact⟨.p y,.inr ⟨_,rfl⟩,fun env=>by simp[aP,hv]⟩
 obtain⟨dst,op,type,pos,after,guard⟩:=o
 cases op with
 | move x =>
  simp only[aS]at hc
  cases hx:rF x with
  | false =>
   rw[hx]at hc
   simp only[cond_false,Wj]at hc
   split at hc
   · rename_i u d
     cases hm:dR (1000*d+u) T.calcs<;>rw[hm]at hc<;>cases hc
   · cases hc
  | true =>
   obtain⟨v,h1,h2⟩:=val x hx
   exact⟨v,h1,fun env h=>by simp[bY,h2]⟩
 | assign x =>
  simp only[aS]at hc
  split at hc
  · cases hc
  · rename_i y hy hne
    cases hne
    cases hx:rF x with
    | false=>rw[hx]at hc;simp at hc
    | true =>
     obtain⟨v,h1,h2⟩:=val x hx
     refine⟨v,h1,fun env h=>?_⟩
     simp only[bY]
     split
     · exact(hy rfl).elim
     · rw[h2]
  all_goals (first | (rename_i h;cases h;done) | cases hc)
 | call c =>
  obtain⟨callee,args,ts⟩:=c
  cases callee with
  | builtin b =>
   by_cases hlen:b=.len
   · subst hlen
     simp only[aS]at hc
     cases hm:ts.toList.any (H7 T)<;>rw[hm]at hc<;>cases hc
   · cases b<;>first | (exact absurd rfl hlen) | (simp only[aS]at hc;cases hb:F5 args.toList all<;>rw[hb]at hc<;>simp at hc;done) | (simp[aS]at hc)
  | value f =>
   cases f with
   | func f =>
    simp only[aS]at hc
    cases hb:(iY T f).DR||(((iY T f).shares&&!(iY T f).quiet)||(iY T f).Bd.writes)<;>rw[hb]at hc<;>simp at hc
   | tmp t =>
    simp only[aS]at hc
    cases ho:Zo T dst<;>rw[ho]at hc<;>simp at hc
   | _=>simp[aS]at hc
  | invoke r n=>simp[aS]at hc
 | slice t x lo hi mx =>
  simp only[aS]at hc
  split at hc<;>cases hc
 | store t p v =>
  simp only[aS]at hc
  split at hc<;>simp_all
  all_goals (rename_i t' _ _;cases hl:yY T all t' v<;>simp_all)
 | _=>simp[aS]at hc
theorem WO {v:AV} (h:v.NI=true):v=.nJ []∨∃ x,v=.p x:=by
 cases v with
 | p x=>exact .inr ⟨x,rfl⟩
 | nJ l=>cases l with
  | nil=>exact .inl rfl
  | cons a l=>simp[AV.NI]at h
 | _=>simp[AV.NI]at h
theorem Vk {op:BinOp} {t:TypeId} {x y:AV} {e:Eff} (h:(yX T op t x y).run some=some e):∃ p q,x=.p p∧y=.p q:=by
 cases x with
 | p p=>cases y with
  | p q=>exact⟨p,q,rfl,rfl⟩
  | _=>cases p<;>simp[yX,DT.run]at h
 | _=>simp[yX,DT.run]at h
theorem Ih {op:BinOp} {t:TypeId} {kc:Bool} {x:AV} {q:PV} {e:Eff} (h:(zL T op t kc x (.p q)).run some=some e):∃ p,x=.p p:=by
 cases x with
 | p p=>exact⟨p,rfl⟩
 | _=>cases q<;>simp[zL,DT.run]at h
theorem X3 {op:BinOp} {t:TypeId} {kc:Bool} {x y:AV} {e:Eff} (h:(FX T op t kc x y).run some=some e):∃ p q,x=.p p∧y=.p q:=by
 unfold FX at h
 split at h
 · obtain⟨p,rfl⟩:=Ih h;exact⟨p,_,rfl,rfl⟩
 · obtain⟨p,rfl⟩:=Ih h;exact⟨p,_,rfl,rfl⟩
 · obtain⟨p,rfl⟩:=Ih h;exact⟨p,_,rfl,rfl⟩
 · exact Vk h
theorem ZT {op:UnOp} {x:AV} {e:Eff} (h:(KO op x).run some=some e):∃ p,x=.p p:=by
 cases x with
 | p p=>exact⟨p,rfl⟩
 | _=>cases op<;>simp[KO,DT.run]at h
theorem TA {all : List Oper} {o : Oper} (hc : aS T all o = .plain) {env : List AV} {h : Nat → Option aJ} {e : Eff} (he : (bY T C env h o).run some = some e) (hp : e.val.NI = true) (env' : List AV) (h' : Nat → Option aJ)
    (hk:∀ t∈tmpsOf o.op.operands.toList,∀ u:AV,u.NI=true→env.getD t .undef=u→env'.getD t .undef=u):(bY T C env' h' o).run some=some e:=by
  have ev:∀ x∈o.op.operands,∀ u:AV,u.NI=true→aP env x=u→aP env' x=u:=by
   intro x hx u hu hxu
   cases x with
   | tmp t=>exact hk t (EU (by simpa using hx)) u hu hxu
   | _=>exact hxu
  obtain⟨dst,op,type,pos,after,guard⟩:=o
  cases op with
  | move x =>
   simp only[bY,DT.run,qOa]at he ⊢
   subst he
   simp only at hp
   rw[ev x (by simp[Op.operands]) _ hp rfl]
  | binOp op t x y z =>
   simp only[bY]at he ⊢
   obtain⟨p,q,h1,h2⟩:=X3 he
   rw[ev x (by simp[Op.operands]) (.p p) rfl h1,ev y (by simp[Op.operands]) (.p q) rfl h2]
   rw[h1,h2]at he
   exact he
  | unOp op t x =>
   simp only[bY]at he ⊢
   obtain⟨p,h1⟩:=ZT he
   rw[ev x (by simp[Op.operands]) (.p p) rfl h1]
   rw[h1]at he
   exact he
  | call c =>
   obtain⟨callee,args,ts⟩:=c
   cases callee with
   | builtin b =>
    by_cases hlen:b=.len
    · subst hlen
      simp only[aS]at hc
      cases hm:ts.toList.any (H7 T)<;>rw[hm]at hc<;>cases hc
    · cases b<;>first | (exact absurd rfl hlen) | (simp only[aS]at hc;cases hb:F5 args.toList all<;>rw[hb]at hc<;>simp at hc;done) | (simp[aS]at hc)
   | value f =>
    cases f with
    | func f =>
     simp only[aS]at hc
     cases hb:(iY T f).DR||(((iY T f).shares&&!(iY T f).quiet)||(iY T f).Bd.writes)<;>rw[hb]at hc<;>simp at hc
    | tmp t =>
     simp only[aS]at hc
     cases ho:Zo T dst<;>rw[ho]at hc<;>simp at hc
    | _=>simp[aS]at hc
   | invoke r n=>simp[aS]at hc
  | slice t x lo hi mx =>
   simp only[aS]at hc
   split at hc<;>cases hc
  | store t p v =>
   simp only[aS]at hc
   split at hc<;>simp_all
   all_goals (rename_i t' _ _;cases hl:yY T all t' v<;>simp_all)
  | assign x =>
   simp only[aS]at hc
   split at hc
   · cases hc
   · rename_i y hy hne
     cases hne
     cases hx:rF x<;>rw[hx]at hc<;>simp at hc
   all_goals (first | (rename_i h;cases h;done) | cases hc)
  | _=>simp[aS]at hc
end
end Go.Skm
namespace Go.Skm
def Same (s t:St):Prop:=s.env=t.env∧look s.heap=look t.heap
theorem Same.refl (s:St):Same s s:=⟨rfl,rfl⟩
theorem Same.trans {s t u:St} (h1:Same s t) (h2:Same t u):Same s u:=⟨h1.1.trans h2.1,h1.2.trans h2.2⟩
theorem Same.symm {s t:St} (h:Same s t):Same t s:=⟨h.1.symm,h.2.symm⟩
mutual
theorem MJ:∀ (v:AV),AV.refers [] v=false
 | .undef | .p _ | .pI _ _ _ _ | .fresh _ _ _ | .zq=>rfl
 | .slice _ _ _ _ | .bslice _ _ _ | .ptr _ _ _ | .mref _=>rfl
 | .fn _ cs | .agg cs | .nJ cs=>by simp only[AV.refers];exact Ea cs
theorem Ea:∀ (l:List AV),AV.fK [] l=false
 | []=>rfl
 | v::r=>by simp[AV.fK,MJ v,Ea r]
end
theorem oZ:∀ (l:List AV),fU [] l=l
 | []=>rfl
 | v::r=>by simp[fU,AV.kill,MJ,oZ r]
def I8 (ss:List Nat) (hp:Heap):Heap:=match ss with | []=>hp | ss=>fE ss hp
def wY (ss:List Nat) (hp:Heap):Heap:=match ss with | []=>hp | ss=>lS (fE ss hp) ss
theorem aby (ss:List Nat) (st:St):st.kill ss=⟨fU ss st.env,I8 ss st.heap⟩:=by
 cases ss with
 | nil=>simp[St.kill,I8,oZ]
 | cons s r=>rfl
theorem X4 (ss:List Nat) (st:St):st.strike ss=⟨fU ss st.env,wY ss st.heap⟩:=by
 cases ss with
 | nil=>simp[St.strike,wY,oZ]
 | cons s r=>rfl
theorem iZ (st : St) (d : Option Nat) (e : Eff) : st.apply d e =
    ⟨setEnv (fU e.cut (fU (present st.heap e.new++e.xE) st.env)) d e.val,dZ (I8 e.cut (wY (present st.heap e.new++e.xE) st.heap)) e.mD⟩:=by
  simp only[St.apply,aby,X4]
theorem xX {h1 h2:Heap} (h:look h1=look h2):∀ (l:List Nat),present h1 l=present h2 l
 | []=>rfl
 | s::r=>by simp only[present,h,xX h r]
theorem TB {h1 h2:Heap} (h:look h1=look h2) (ss:List Nat):look (I8 ss h1)=look (I8 ss h2):=by
 cases ss with
 | nil=>exact h
 | cons s r=>funext x;simp only[I8,fA,h]
theorem NT {h1 h2:Heap} (h:look h1=look h2) (ss:List Nat):look (wY ss h1)=look (wY ss h2):=by
 cases ss with
 | nil=>exact h
 | cons s r=>funext x;simp only[wY,qg,fA,h]
theorem X5 {h1 h2:Heap} (h:look h1=look h2) (s:Nat) (b:aJ):look (put h1 s b)=look (put h2 s b):=by
 funext x;simp only[aZ,h]
theorem Gq:∀ {c:List (Nat × aJ)} {h1 h2:Heap},look h1=look h2→look (dZ h1 c)=look (dZ h2 c)
 | [],_,_,h=>h
 | (s,b)::r,_,_,h=>Gq (c:=r) (X5 h s b)
theorem TD {s t:St} (h:Same s t) (d:Option Nat) (e:Eff):Same (s.apply d e) (t.apply d e):=by
 rw[iZ,iZ,xX h.2,h.1]
 exact⟨rfl,Gq (TB (NT h.2 _) _)⟩
section
variable {T:Tab} {C:aA}
theorem o7 {h1 h2:Heap} (h:look h1=look h2):∀ c:List (Nat × aJ),mF h1 c=mF h2 c
 | []=>rfl
 | (s,.log _ _)::r=>rfl
 | (s,.box _)::r=>by simp only[mF,h,o7 h r]
 | (s,.arr _ _ _)::r=>by simp only[mF,h,o7 h r]
 | (s,.tb _ _ _)::r=>by simp only[mF,h,o7 h r]
 | (s,.mp _ _)::r=>by simp only[mF,h,o7 h r]
 | (s,.br _ _)::r=>by simp only[mF,h,o7 h r]
theorem TF {draw:Bool} {cls:Cls} {o:List Nat} {h1 h2:Heap} (h:look h1=look h2) (e:Eff):dI draw cls o h1 e=dI draw cls o h2 e:=by
 unfold dI;rw[xX h,o7 h]
theorem ZU {draw : Bool} {hd : List Nat} {all : List Oper} {o : Oper} {st : St} :
    step1 T C draw hd all o st=(xW T C all o st.env (ji hd (look st.heap))).bind fun e=>if(gU (e.new++e.xE)&&dI draw (aS T all o) (fG all o) st.heap e)=true then some (st.apply o.dst e) else none:=by
  unfold step1 xW
  cases wG T C all o st.env (ji hd (look st.heap)) with
  | none=>rfl
  | some x =>
   cases x with
   | none =>
    simp only[Option.map_some,Option.getD_none,Option.bind_some]
    have:dI draw (aS T all o) (fG all o) st.heap { val:=.nJ [] }=true:=by
     cases draw with
     | false=>rfl
     | true=>cases aS T all o<;>rfl
    rw[if_pos (by simp[gU,this]),iZ]
    simp[present,oZ,I8,wY,dZ]
   | some e=>rfl
theorem gZ {draw : Bool} {hd : List Nat} {all : List Oper} {o : Oper} {st st' : St} : step1 T C draw hd all o st = some st' ↔
    ∃ e,xW T C all o st.env (ji hd (look st.heap))=some e∧gU (e.new++e.xE)=true∧dI draw (aS T all o) (fG all o) st.heap e=true∧st'=st.apply o.dst e:=by
  rw[ZU]
  cases h:xW T C all o st.env (ji hd (look st.heap)) with
  | none=>simp
  | some e =>
   simp only[Option.bind_some,qOa,exists_eq_left']
   constructor
   · intro h
     split at h
     · rename_i hc
       simp only[qBa]at hc
       exact⟨hc.1,hc.2,by simpa using h.symm⟩
     · cases h
   · rintro ⟨h1,h2,rfl⟩
     rw[if_pos (by simp[h1,h2])]
theorem TG {draw:Bool} {hd:List Nat} {all:List Oper} {o:Oper} {s t s':St} (h:Same s t) (h1:step1 T C draw hd all o s=some s'):∃ t',step1 T C draw hd all o t=some t'∧Same s' t':=by
 obtain⟨e,g1,g2,g3,rfl⟩:=gZ.1 h1
 refine⟨t.apply o.dst e,gZ.2 ⟨e,?_,g2,?_,rfl⟩,TD h _ _⟩
 · rw[← h.1,← h.2];exact g1
 · rw[← TF h.2];exact g3
def lastOf:List (Nat × aJ)→Nat→Option aJ
 | [],_=>none
 | (s,b)::r,x=>match lastOf r x with
  | some c=>some c
  | none=>if x=s then some b else none
theorem kG:∀ (c:List (Nat × aJ)) (hp:Heap) (x:Nat),look (dZ hp c) x=match lastOf c x with | some b=>some b | none=>look hp x
 | [],hp,x=>rfl
 | (s,b)::r,hp,x=>by
  show look (dZ (put hp s b) r) x=_
  rw[kG r]
  simp only[lastOf]
  cases lastOf r x with
  | some c=>rfl
  | none =>
   simp only[aZ]
   by_cases h:x=s<;>simp[h]
theorem rM {x:Nat}:∀ {c:List (Nat × aJ)},x ∉ keysOf c→lastOf c x=none
 | [],_=>rfl
 | (s,b)::r,h=>by
  simp only[keysOf,List.mem_cons,not_or]at h
  simp[lastOf,rM h.2,h.1]
theorem TJ {c1 c2:List (Nat × aJ)} (h:∀ x,x∈keysOf c1→x ∉ keysOf c2) (hp:Heap):look (dZ (dZ hp c1) c2)=look (dZ (dZ hp c2) c1):=by
 funext x
 simp only[kG]
 by_cases h1:x∈keysOf c1
 · rw[rM (h x h1)]
 · rw[rM h1]
theorem EW {ss:List Nat}:∀ {c:List (Nat × aJ)},La ss c=true→∀ x∈keysOf c,x∈ss
 | [],_,x,h=>by simp[keysOf]at h
 | (k,b)::r,h,x,hx=>by
  simp only[La,qBa]at h
  simp only[keysOf,List.mem_cons]at hx
  rcases hx with rfl | hx
  · exact jr.1 h.1
  · exact EW h.2 x hx
theorem TK {ss:List Nat}:∀ {l:List Nat},abg ss l=true→∀ x∈l,x∈ss
 | [],_,x,h=>by simp at h
 | y::r,h,x,hx=>by
  simp only[abg,qBa]at h
  rcases List.mem_cons.1 hx with rfl | hx
  · exact jr.1 h.1
  · exact TK h.2 x hx
theorem TL {U:List Nat} {c:List (Nat × aJ)} (h:∀ x∈keysOf c,x∈U) (hp:Heap):ji U (look (dZ hp c))=ji U (look hp):=by
 cases U with
 | nil =>
  cases c with
  | nil=>rfl
  | cons p r=>obtain⟨k,b⟩:=p;exact absurd (h k (by simp[keysOf])) (by simp)
 | cons s r =>
  funext x
  simp only[ji]
  cases hm:dR x (s::r) with
  | true=>rfl
  | false =>
   simp only[cond_false]
   rw[kG,rM fun hx=>dL.1 hm (h x hx)]
theorem xY {hp:Heap}:∀ {l:List Nat},present hp l=[]↔∀ s∈l,look hp s=none
 | []=>by simp[present]
 | s::r=>by
  simp only[present,List.mem_cons,forall_eq_or_imp]
  cases h:look hp s with
  | some b=>simp
  | none=>simp[xY]
theorem rO {env:List AV} {d1 d2:Option Nat} {v1 v2:AV} (h:∀ d,d1=some d→d2≠some d):setEnv (setEnv env d1 v1) d2 v2=setEnv (setEnv env d2 v2) d1 v1:=by
 cases d1 with
 | none=>rfl
 | some a =>
  cases d2 with
  | none=>rfl
  | some b=>exact List.set_comm _ _ fun e=>h a rfl (by rw[e])
theorem jl {env:List AV} {d:Option Nat} {v:AV} {t:Nat} (h:d≠some t):(setEnv env d v).getD t .undef=env.getD t .undef:=by
 cases d with
 | none=>rfl
 | some a =>
  have:a≠t:=fun e=>h (by rw[e])
  simp only[setEnv,qLb,List.getElem?_set_ne this]
theorem kP {ss:List Nat} {env:List AV} {d:Option Nat} {v:AV} (h:v=.undef∨v=.nJ []∨∃ x,v=.p x):fU ss (setEnv env d v)=setEnv (fU ss env) d v:=by
 have hk:AV.kill ss v=v:=by
  rcases h with rfl | rfl | ⟨x,rfl⟩<;>rfl
 cases d with
 | none=>rfl
 | some a =>
  apply List.ext_getElem?
  intro i
  simp only[setEnv,iP]
  by_cases hi:a=i
  · subst hi
    by_cases hl:a<env.length
    · simp[hl,ku,hk]
    · rw[List.getElem?_eq_none (by simp;omega),List.getElem?_eq_none (by simp[ku];omega)];rfl
  · rw[List.getElem?_set_ne hi,List.getElem?_set_ne hi,iP]
theorem O5 {ss:List Nat} {env:List AV} {t:Nat} {v:PV}:(fU ss env).getD t .undef=.p v↔env.getD t .undef=.p v:=by
 simp only[qLb,iP]
 cases env[t]? with
 | none=>simp
 | some u =>
  simp only[Option.map_some,Option.getD_some]
  unfold AV.kill
  cases h:AV.refers ss u with
  | false=>simp
  | true =>
   simp only[cond_true]
   constructor
   · intro h';cases h'
   · rintro rfl;simp[AV.refers]at h
theorem Gs {ss:List Nat} {env:List AV} {t:Nat}:(fU ss env).getD t .undef=.nJ []↔env.getD t .undef=.nJ []:=by
 simp only[qLb,iP]
 cases env[t]? with
 | none=>simp
 | some u =>
  simp only[Option.map_some,Option.getD_some]
  unfold AV.kill
  cases h:AV.refers ss u with
  | false=>simp
  | true =>
   simp only[cond_true]
   constructor
   · intro h';cases h'
   · rintro rfl;simp[AV.refers,AV.fK]at h
def IsG (v:AV):Prop:=(∃ b,v=.p (.bool b))∨v=.nJ []
theorem Dq {ss:List Nat} {env:List AV} {t:Nat} {v:AV} (hv:IsG v):(fU ss env).getD t .undef=v↔env.getD t .undef=v:=by
 rcases hv with ⟨b,rfl⟩ | rfl
 · exact O5
 · exact Gs
theorem Dt {ss:List Nat} {env:List AV} {t:Nat} {v:AV} (hv:v.NI=true):(fU ss env).getD t .undef=v↔env.getD t .undef=v:=by
 rcases WO hv with rfl | ⟨x,rfl⟩
 · exact Gs
 · exact O5
end
end Go.Skm
namespace Go.Skm
section
variable {T:Tab} {C:aA}
theorem MK {ss:List Nat}:∀ {l:List Nat},Ql ss l=true→∀ x∈l,x ∉ ss
 | [],_,x,h=>by simp at h
 | y::r,h,x,hx=>by
  simp only[Ql,qBa,qBb]at h
  rcases List.mem_cons.1 hx with rfl | hx
  · exact dL.1 h.1
  · exact MK h.2 x hx
theorem TM {all : List Oper} {x y : Oper} (h : UU all x y = true) :
    (∀ d,x.dst=some d→d ∉ pX all y)∧(∀ d,x.dst=some d→y.dst≠some d)∧(∀ d,y.dst=some d→d ∉ pX all x):=by
  unfold UU at h
  simp only[qBa]at h
  refine⟨fun d hd=>?_,fun d hd=>?_,fun d hd=>?_⟩
  · have:=h.1;rw[hd]at this;simp only[qBa,qBb]at this;exact dL.1 this.1
  · have:=h.1;rw[hd]at this;simp only[qBa,qBb]at this;simpa using this.2
  · have:=h.2;rw[hd]at this;simp only[qBb]at this;exact dL.1 this
theorem fV {st:St} {d:Option Nat} {e:Eff} (h1:e.cut=[]) (h2:e.xE=[]) (h3:present st.heap e.new=[]):st.apply d e=⟨setEnv st.env d e.val,dZ st.heap e.mD⟩:=by
 rw[iZ,h1,h2,h3]
 simp[oZ,I8,wY]
theorem ML {all : List Oper} {o : Oper} (hc : aS T all o = .const) {env : List AV} {h : Nat → Option aJ} {e : Eff} (he : xW T C all o env h = some e) :
    (∃ v,e={ val:=v }∧(v=.undef∨v=.nJ []∨∃ x,v=.p x)) ∧
    ∀ env' h',(∀ g want t v,o.guard=some (g,want)→oP all g=some t→IsG v→env.getD t .undef=v→env'.getD t .undef=v)→xW T C all o env' h'=some e:=by
  obtain⟨v,hv,hs⟩:=QK (C:=C) hc
  have hv':v=.undef∨v=.nJ []∨∃ x,v=.p x:=hv.imp id .inr
  unfold xW wG at he ⊢
  simp only[hs]at he ⊢
  cases hg:o.guard with
  | none =>
   rw[hg]at he
   simp only[DT.run,Option.map_some,Option.getD_some,qOa]at he
   subst he
   exact⟨⟨v,rfl,hv'⟩,fun env' h' _=>rfl⟩
  | some gw =>
   obtain⟨g,want⟩:=gw
   rw[hg]at he
   simp only at he ⊢
   cases hd:oP all g with
   | none=>rw[hd]at he;simp at he
   | some t =>
    rw[hd]at he
    simp only at he ⊢
    by_cases hx:∃ b,env.getD t .undef=.p (.bool b)
    · obtain⟨b,hb⟩:=hx
      rw[hb]at he
      simp only at he
      refine⟨?_,fun env' h' hk=>?_⟩
      · split at he
        · simp[DT.run]at he;subst he;exact⟨v,rfl,hv'⟩
        · simp at he;subst he;exact⟨.nJ [],rfl,.inr (.inl rfl)⟩
      · rw[hk g want t _ rfl hd (.inl ⟨b,rfl⟩) hb]
        exact he
    · by_cases hh:env.getD t .undef=.nJ []
      · rw[hh]at he
        simp only[Option.map_some,Option.getD_none,qOa]at he
        subst he
        refine⟨⟨.nJ [],rfl,.inr (.inl rfl)⟩,fun env' h' hk=>?_⟩
        rw[hk g want t _ rfl hd (.inr rfl) hh]
        rfl
      · split at he
        · rename_i b hb;exact absurd ⟨b,hb⟩ hx
        all_goals (first | exact absurd ⟨_,‹_›⟩ hx | exact absurd ‹_› hh | simp at he)
theorem guard_looks {all:List Oper} {o:Oper} {g t:Nat} {want:Bool} (hg:o.guard=some (g,want)) (hd:oP all g=some t):t∈pX all o:=by
 unfold pX
 unfold oP at hd
 rw[hg]
 simp[hd]
theorem O6 {all : List Oper} {o : Oper} (hc : aS T all o = .plain) {env : List AV} {h h0 : Heap} {hh : Nat → Option aJ} {ss : List Nat} {e : Eff} (he : xW T C all o env hh = some e) (hq : dI true .plain ss h0 e = true) :
    (∃ v,e={ val:=v }∧(v=.undef∨v=.nJ []∨∃ x,v=.p x)) ∧
    ∀ env' h',(∀ t∈pX all o,∀ u:AV,u.NI=true→env.getD t .undef=u→env'.getD t .undef=u)→xW T C all o env' h'=some e:=by
  have _:=h
  simp only[dI,qBa,List.isEmpty_iff]at hq
  obtain⟨q1,q2,q3,q4,q5⟩:=hq
  obtain⟨ev,ec,en,eu,ef⟩:=e
  simp only at q1 q2 q3 q4 q5
  subst q1 q2 q3 q4
  refine⟨⟨ev,rfl,.inr (WO q5)⟩,fun env' h' hk=>?_⟩
  have hs:∀ {e':Eff},(bY T C env hh o).run some=some e'→e'.val.NI=true→(bY T C env' h' o).run some=some e':=fun h1 h2 =>
   TA hc h1 h2 env' h' fun t ht=>hk t (List.mem_append_left _ ht)
  unfold xW wG at he ⊢
  cases hg:o.guard with
  | none =>
   rw[hg]at he
   simp only at he ⊢
   cases hr:(bY T C env hh o).run some with
   | none=>rw[hr]at he;simp at he
   | some e' =>
    rw[hr]at he
    simp only[Option.map_some,Option.getD_some,qOa]at he
    subst he
    rw[hs hr q5];rfl
  | some gw =>
   obtain⟨g,want⟩:=gw
   rw[hg]at he
   simp only at he ⊢
   cases hd:oP all g with
   | none=>rw[hd]at he;simp at he
   | some t =>
    rw[hd]at he
    simp only at he ⊢
    have hl:=guard_looks hg hd
    by_cases hx:∃ b,env.getD t .undef=.p (.bool b)
    · obtain⟨b,hb⟩:=hx
      rw[hk t hl _ rfl hb]
      rw[hb]at he
      simp only at he ⊢
      split at he
      · next hbw =>
        rw[if_pos hbw]
        cases hr:(bY T C env hh o).run some with
        | none=>rw[hr]at he;simp at he
        | some e' =>
         rw[hr]at he
         simp only[Option.map_some,Option.getD_some,qOa]at he
         subst he
         rw[hs hr q5];rfl
      · next hbw=>rw[if_neg hbw];exact he
    · by_cases hh':env.getD t .undef=.nJ []
      · rw[hk t hl _ rfl hh']
        rw[hh']at he
        exact he
      · split at he
        · rename_i b hb;exact absurd ⟨b,hb⟩ hx
        all_goals (first | exact absurd ⟨_,‹_›⟩ hx | exact absurd ‹_› hh' | simp at he)
def Facts (o:List Nat) (e:Eff):Cls→Prop
 | .read=>(∀ x∈keysOf e.mD,x∈o)∧(∀ x∈e.new,x∈o)
 | .own t=>(∀ x∈keysOf e.mD,x∈[t])∧e.new=[]
 | .store=>e.new=[]
 | _=>e.mD=[]∧e.new=[]
def MN:Cls→Bool
 | .heavy=>false
 | _=>true
theorem I9 {cls : Cls} {o : List Nat} {h : Heap} {e : Eff} (hq : dI true cls o h e = true) (hc : MN cls = true) :
    e.cut=[]∧e.xE=[]∧present h e.new=[] ∧
    Facts o e cls:=by
  cases cls with
  | heavy=>cases hc
  | read =>
   simp only[dI,qBa,List.isEmpty_iff]at hq
   exact⟨hq.1,hq.2.1,hq.2.2.2.2,fun x hx=>EW hq.2.2.1 x hx,fun x hx=>TK hq.2.2.2.1 x hx⟩
  | own t =>
   simp only[dI,qBa,List.isEmpty_iff]at hq
   exact⟨hq.1,hq.2.1,by rw[hq.2.2.2];rfl,fun x hx=>EW hq.2.2.1 x hx,hq.2.2.2⟩
  | store =>
   simp only[dI,qBa,List.isEmpty_iff]at hq
   exact⟨hq.1,hq.2.1,by rw[hq.2.2];rfl,hq.2.2⟩
  | pure =>
   simp only[dI,qBa,List.isEmpty_iff]at hq
   exact⟨hq.1,hq.2.1,by rw[hq.2.2.2];rfl,hq.2.2.1,hq.2.2.2⟩
  | const =>
   simp only[dI,qBa,List.isEmpty_iff]at hq
   exact⟨hq.1,hq.2.1,by rw[hq.2.2.2];rfl,hq.2.2.1,hq.2.2.2⟩
  | plain =>
   simp only[dI,qBa,List.isEmpty_iff]at hq
   exact⟨hq.1,hq.2.1,by rw[hq.2.2.2.1];rfl,hq.2.2.1,hq.2.2.2.1⟩
theorem quiet_move {cls:Cls} {o:List Nat} {h h':Heap} {e:Eff} (hq:dI true cls o h e=true) (hp:present h' e.new=[]):dI true cls o h' e=true:=by
 cases cls with
 | read =>
  simp only[dI,qBa,List.isEmpty_iff]at hq ⊢
  exact⟨hq.1,hq.2.1,hq.2.2.1,hq.2.2.2.1,hp⟩
 | _=>exact hq
theorem swap {all : List Oper} {hx ho : List Nat} {x o : Oper} {st st1 st2 : St} (h1 : step1 T C true hx all x st = some st1) (h2 : step1 T C true ho all o st1 = some st2) (hcl : uw T all hx ho x o = true)
    (s1:∀ s∈fG all x,s∈ho) (s2:∀ s∈fG all o,s∈hx):∃ st1' st2',step1 T C true ho all o st=some st1'∧step1 T C true hx all x st1'=some st2'∧Same st2' st2:=by
  obtain⟨ex,x1,x2,x3,rfl⟩:=gZ.1 h1
  obtain⟨eo,o1,o2,o3,rfl⟩:=gZ.1 h2
  unfold uw at hcl
  simp only[qBa]at hcl
  obtain⟨hap,hno,hcls⟩:=hcl
  obtain⟨a1,a2,a3⟩:=TM hap
  have hno:=MK hno
  by_cases hcx:aS T all x=.const
  · -- the first one is constant
    obtain⟨⟨v,rfl,hv⟩,hk⟩:=ML hcx x1
    have e1:st.apply x.dst { val:=v }=⟨setEnv st.env x.dst v,st.heap⟩:=fV rfl rfl rfl
    rw[e1]at o1 o3 ⊢
    have o1':xW T C all o st.env (ji ho (look st.heap))=some eo:=by
     rw[← o1];exact qJ fun t ht=>(jl fun e=>a1 t e ht).symm
    refine⟨st.apply o.dst eo,_,gZ.2 ⟨eo,o1',o2,o3,rfl⟩,gZ.2 ⟨{ val:=v },hk _ _ fun g want t u hg hd hu hb=>?_,x2,by rw[hcx];rfl,rfl⟩,?_⟩
    · rw[iZ]
      simp only
      rw[jl fun e=>a3 t e (guard_looks hg hd),Dq hu,Dq hu]
      exact hb
    · rw[fV rfl rfl rfl,iZ,iZ]
      refine⟨?_,rfl⟩
      simp only
      rw[kP hv,kP hv]
      exact rO fun d hd e=>a2 d e hd
  · by_cases hco:aS T all o=.const
    · -- the second one is constant
      obtain⟨⟨v,rfl,hv⟩,hk⟩:=ML hco o1
      have o1':xW T C all o st.env (ji ho (look st.heap))=some { val:=v }:=by
       refine hk _ _ fun g want t u hg hd hu hb=>?_
       rw[iZ]at hb
       simp only at hb
       rwa[jl fun e=>a1 t e (guard_looks hg hd),Dq hu,Dq hu]at hb
      have e1:st.apply o.dst { val:=v }=⟨setEnv st.env o.dst v,st.heap⟩:=fV rfl rfl rfl
      refine⟨st.apply o.dst { val:=v },st.apply o.dst { val:=v } |>.apply x.dst ex,gZ.2 ⟨{ val:=v },o1',o2,by rw[hco];rfl,rfl⟩,gZ.2 ⟨ex,?_,x2,by rw[e1];exact x3,rfl⟩,?_⟩
      · rw[e1,← x1];exact qJ fun t ht=>jl fun e=>a3 t e ht
      · rw[e1,fV (st:=st.apply x.dst ex) rfl rfl rfl,iZ,iZ]
        refine⟨?_,rfl⟩
        simp only
        rw[kP hv,kP hv]
        exact(rO fun d hd e=>a2 d hd e).symm
    · by_cases ZV:aS T all x=.plain
      · -- the first one is a calculation
        rw[ZV]at x3
        obtain⟨⟨v,rfl,hv⟩,hk⟩:=O6 (h:=[]) ZV x1 x3
        have e1:st.apply x.dst { val:=v }=⟨setEnv st.env x.dst v,st.heap⟩:=fV rfl rfl rfl
        rw[e1]at o1 o3 ⊢
        have o1':xW T C all o st.env (ji ho (look st.heap))=some eo:=by
         rw[← o1];exact qJ fun t ht=>(jl fun e=>a1 t e ht).symm
        refine⟨st.apply o.dst eo,_,gZ.2 ⟨eo,o1',o2,o3,rfl⟩,gZ.2 ⟨{ val:=v },hk _ _ fun t ht u hu hb=>?_,x2,by rw[ZV];exact x3,rfl⟩,?_⟩
        · rw[iZ]
          simp only
          rw[jl fun e=>a3 t e ht,Dt hu,Dt hu]
          exact hb
        · rw[fV rfl rfl rfl,iZ,iZ]
          refine⟨?_,rfl⟩
          simp only
          rw[kP hv,kP hv]
          exact rO fun d hd e=>a2 d e hd
      · by_cases Vl:aS T all o=.plain
        · -- the second one is a calculation
          rw[Vl]at o3
          obtain⟨⟨v,rfl,hv⟩,hk⟩:=O6 (h:=[]) Vl o1 o3
          have o1':xW T C all o st.env (ji ho (look st.heap))=some { val:=v }:=by
           refine hk _ _ fun t ht u hu hb=>?_
           rw[iZ]at hb
           simp only at hb
           rwa[jl fun e=>a1 t e ht,Dt hu,Dt hu]at hb
          have e1:st.apply o.dst { val:=v }=⟨setEnv st.env o.dst v,st.heap⟩:=fV rfl rfl rfl
          refine⟨st.apply o.dst { val:=v },st.apply o.dst { val:=v } |>.apply x.dst ex,gZ.2 ⟨{ val:=v },o1',o2,by rw[Vl];exact o3,rfl⟩,gZ.2 ⟨ex,?_,x2,by rw[e1];exact x3,rfl⟩,?_⟩
          · rw[e1,← x1];exact qJ fun t ht=>jl fun e=>a3 t e ht
          · rw[e1,fV (st:=st.apply x.dst ex) rfl rfl rfl,iZ,iZ]
            refine⟨?_,rfl⟩
            simp only
            rw[kP hv,kP hv]
            exact(rO fun d hd e=>a2 d hd e).symm
        · -- neither: both only write slots and lay blocks
          have cx:MN (aS T all x)=true:=by
           cases hx':aS T all x<;>rw[hx']at hcls<;>first | rfl | skip
           cases ho':aS T all o<;>rw[ho']at hcls<;>simp at hcls
           · exact absurd ho' hco
           · exact absurd ho' Vl
          have co:MN (aS T all o)=true:=by
           cases ho':aS T all o<;>rw[ho']at hcls<;>first | rfl | skip
           cases hx':aS T all x<;>rw[hx']at hcls<;>simp at hcls
           · exact absurd hx' hcx
           · exact absurd hx' ZV
          obtain⟨p1,p2,p3,p4⟩:=I9 x3 cx
          obtain⟨q1,q2,q3,q4⟩:=I9 o3 co
          have e1:=fV (d:=x.dst) p1 p2 p3
          rw[e1]at o1 o3 q3 ⊢
          rw[fV q1 q2 q3]
          simp only at o1 o3 q3 ⊢
          have facts:(aS T all o=.pure∨∀ s∈keysOf ex.mD,s∈ho)∧(aS T all x=.pure∨∀ s∈keysOf eo.mD,s∈hx)∧(∀ s∈keysOf ex.mD,s ∉ keysOf eo.mD)∧(∀ s∈ex.new,s ∉ keysOf eo.mD):=by
           cases hx':aS T all x with
           | const=>exact absurd hx' hcx
           | plain=>exact absurd hx' ZV
           | heavy=>rw[hx']at cx;cases cx
           | pure =>
            rw[hx']at p4
            simp only[Facts]at p4
            refine⟨.inr ?_,.inl rfl,?_,?_⟩<;>simp[p4.1,p4.2,keysOf]
           | read =>
            rw[hx']at p4 hcls
            simp only[Facts]at p4
            cases ho':aS T all o with
            | const=>exact absurd ho' hco
            | plain=>exact absurd ho' Vl
            | heavy=>rw[ho']at co;cases co
            | pure =>
             rw[ho']at q4
             simp only[Facts]at q4
             refine⟨.inl rfl,.inr ?_,?_,?_⟩<;>simp[q4.1,keysOf]
            | read =>
             rw[ho']at q4
             simp only[Facts]at q4
             exact⟨.inr fun s hs=>s1 s (p4.1 s hs),.inr fun s hs=>s2 s (q4.1 s hs),fun s h1 h2=>hno s (q4.1 s h2) (p4.1 s h1),fun s h1 h2=>hno s (q4.1 s h2) (p4.2 s h1)⟩
            | own t =>
             rw[ho']at q4 hcls
             simp only[Facts,qBa,qBb]at q4 hcls
             have ht:∀ s∈keysOf eo.mD,s∈hx∧s ∉ fG all x:=fun s hs=>by
              have:=q4.1 s hs
              simp at this;subst this
              exact⟨jr.1 hcls.1,dL.1 hcls.2⟩
             exact⟨.inr fun s hs=>s1 s (p4.1 s hs),.inr fun s hs=>(ht s hs).1,fun s h1 h2=>(ht s h2).2 (p4.1 s h1),fun s h1 h2=>(ht s h2).2 (p4.2 s h1)⟩
            | store=>rw[ho']at hcls;simp at hcls
           | own t =>
            rw[hx']at p4 hcls
            simp only[Facts]at p4
            cases ho':aS T all o with
            | const=>exact absurd ho' hco
            | plain=>exact absurd ho' Vl
            | heavy=>rw[ho']at co;cases co
            | pure =>
             rw[ho']at q4
             simp only[Facts]at q4
             refine⟨.inl rfl,.inr ?_,?_,?_⟩<;>simp[q4.1,keysOf]
            | read =>
             rw[ho']at q4 hcls
             simp only[Facts,qBa,qBb]at q4 hcls
             have ht:∀ s∈keysOf ex.mD,s∈ho∧s ∉ fG all o:=fun s hs=>by
              have:=p4.1 s hs
              simp at this;subst this
              exact⟨jr.1 hcls.1,dL.1 hcls.2⟩
             exact⟨.inr fun s hs=>(ht s hs).1,.inr fun s hs=>s2 s (q4.1 s hs),fun s h1 h2=>(ht s h1).2 (q4.1 s h2),fun s h1=>by rw[p4.2]at h1;simp at h1⟩
            | own t=>rw[ho']at hcls;simp at hcls
            | store=>rw[ho']at hcls;simp at hcls
           | store =>
            rw[hx']at p4 hcls
            simp only[Facts]at p4
            cases ho':aS T all o with
            | const=>exact absurd ho' hco
            | plain=>exact absurd ho' Vl
            | heavy=>rw[ho']at co;cases co
            | pure =>
             rw[ho']at q4
             simp only[Facts]at q4
             refine⟨.inl rfl,.inr ?_,?_,?_⟩<;>simp[q4.1,keysOf]
            | read=>rw[ho']at hcls;simp at hcls
            | own t=>rw[ho']at hcls;simp at hcls
            | store=>rw[ho']at hcls;simp at hcls
          obtain⟨f1,f2,f3,f4⟩:=facts
          have n1:present st.heap eo.new=[]:=by
           rw[xY]at q3 ⊢
           intro s hs
           have:=q3 s hs
           rw[kG]at this
           split at this
           · cases this
           · exact this
          have o1':xW T C all o st.env (ji ho (look st.heap))=some eo:=by
           rw[qJ fun t ht=>jl fun e=>a1 t e ht]at o1
           rcases f1 with f1 | f1
           · rw[← o1];exact O4 f1
           · rwa[TL f1]at o1
          have n2:present (dZ st.heap eo.mD) ex.new=[]:=by
           rw[xY]at p3 ⊢
           intro s hs
           rw[kG,rM (f4 s hs)]
           exact p3 s hs
          refine⟨⟨setEnv st.env o.dst eo.val,dZ st.heap eo.mD⟩,⟨setEnv (setEnv st.env o.dst eo.val) x.dst ex.val,dZ (dZ st.heap eo.mD) ex.mD⟩,gZ.2 ⟨eo,o1',o2,quiet_move o3 n1,(fV q1 q2 n1).symm⟩,gZ.2 ⟨ex,?_,x2,quiet_move x3 n2,(fV (st:=⟨setEnv st.env o.dst eo.val,dZ st.heap eo.mD⟩) p1 p2 n2).symm⟩,?_⟩
          · simp only
            rw[qJ fun t ht=>jl fun e=>a3 t e ht]
            rcases f2 with f2 | f2
            · rw[← x1];exact O4 f2
            · rw[TL f2];exact x1
          · exact⟨(rO fun d hd e=>a2 d hd e).symm,(TJ (fun s h1=>f3 s h1) st.heap).symm⟩
end
end Go.Skm
namespace Go.Skm
section
variable {T:Tab} {C:aA} {hd:List (List Nat)} {all:List Oper}
def Gt (T:Tab) (C:aA) (hd:List (List Nat)) (all:List Oper):List (Nat × Oper)→St→St→Prop
 | [],st,fin=>Same st fin
 | (j,o)::r,st,fin=>∃ st1,step1 T C true (hd.getD j []) all o st=some st1∧Gt T C hd all r st1 fin
def num:Nat→List Oper→List (Nat × Oper)
 | _,[]=>[]
 | k,o::r=>(k,o)::num (k+1) r
theorem Ja:∀ {l:List (Nat × Oper)} {s t fin:St},Same s t→Gt T C hd all l s fin→Gt T C hd all l t fin
 | [],s,t,fin,h,h1=>h.symm.trans h1
 | (j,o)::r,s,t,fin,h,h1=>by
  obtain⟨s1,h2,h3⟩:=h1
  obtain⟨t1,h4,h5⟩:=TG h h2
  exact⟨t1,h4,Ja h5 h3⟩
theorem Cc {α:Type} {k:St→Option α} {x:α}:∀ {l:List Oper} {j:Nat} {st:St},dA T C true hd all l j st k=some x→∃ fin,Gt T C hd all (num j l) st fin∧k fin=some x
 | [],j,st,h=>⟨st,Same.refl st,h⟩
 | o::r,j,st,h=>by
  rw[mP _ _ rfl]at h
  cases h1:step1 T C true (hd.getD j []) all o st with
  | none=>rw[h1]at h;cases h
  | some st1 =>
   rw[h1]at h
   obtain⟨fin,h2,h3⟩:=Cc (l:=r) (j:=j+1) (st:=st1) h
   exact⟨fin,⟨st1,h1,h2⟩,h3⟩
theorem front {i : Nat} {o : Oper} {R2 : List (Nat × Oper)} : ∀ {R1 : List (Nat × Oper)} {st fin : St},Gt T C hd all (R1 ++ (i,o)::R2) st fin →
    (∀ p∈R1,uw T all (hd.getD p.1 []) (hd.getD i []) p.2 o=true∧(∀ s∈fG all p.2,s∈hd.getD i [])∧(∀ s∈fG all o,s∈hd.getD p.1 [])) →
    ∃ st1,step1 T C true (hd.getD i []) all o st=some st1∧Gt T C hd all (R1++R2) st1 fin
  | [],st,fin,h,_=>h
  | (j,x)::R1,st,fin,h,hp=>by
   obtain⟨s1,h1,h2⟩:=h
   obtain⟨s2,h3,h4⟩:=front (R1:=R1) h2 fun p hp'=>hp p (by simp[hp'])
   obtain⟨c1,c2,c3⟩:=hp (j,x) (by simp)
   obtain⟨t1,t2,h5,h6,h7⟩:=swap h1 h3 c1 c2 c3
   exact⟨t1,h5,t2,h6,Ja h7.symm h4⟩
def nX (listed:Array Bool) (l:List (Nat × Oper)):List (Nat × Oper):=l.filter fun p=>!listed.getD p.1 true
theorem WQ {listed:Array Bool} {i:Nat}:∀ {l:List Oper} {k:Nat},i<k→nX (listed.setIfInBounds i true) (num k l)=nX listed (num k l)
 | [],_,_=>rfl
 | o::r,k,h=>by
  have h1:=WQ (listed:=listed) (l:=r) (k:=k+1) (i:=i) (by omega)
  unfold nX at h1 ⊢
  simp only[num,List.filter_cons,h1,getD_set_ne true (show i≠k by omega)]
theorem vV {listed : Array Bool} {i : Nat} {o : Oper} (hi : listed.getD i true = false) : ∀ {l : List Oper} {k : Nat},k ≤ i → l[i - k]? = some o →
    ∃ R1 R2,nX listed (num k l)=R1++(i,o)::R2∧nX (listed.setIfInBounds i true) (num k l)=R1++R2∧∀ p∈R1,k≤p.1∧p.1<i∧l[p.1-k]?=some p.2∧listed.getD p.1 true=false
  | [],k,_,h=>by simp at h
  | x::r,k,hk,h=>by
   by_cases he:k=i
   · subst he
     simp at h;subst h
     refine⟨[],nX listed (num (k+1) r),?_,?_,by simp⟩
     · simp only[nX,num,List.filter_cons,hi];simp
     · have:=WQ (listed:=listed) (l:=r) (k:=k+1) (i:=k) (by omega)
       have h2:(listed.setIfInBounds k true).getD k true=true:=by
        have hlt:k<listed.size:=by
         rcases Nat.lt_or_ge k listed.size with h' | h'
         · exact h'
         · simp[Array.getElem?_eq_none h']at hi
        simp[hlt]
       unfold nX at this ⊢
       simp only[num,List.filter_cons,h2,this];simp
   · have h' : r[i - (k + 1)]? = some o := by
       have:i-k=(i-(k+1))+1:=by omega
       rw[this]at h;simpa using h
     obtain⟨R1,R2,g1,g2,g3⟩:=vV hi (l:=r) (k:=k+1) (by omega) h'
     have hne:(listed.setIfInBounds i true).getD k true=listed.getD k true:=getD_set_ne true (Ne.symm he)
     have up:∀ p∈R1,k≤p.1∧p.1<i∧(x::r)[p.1-k]?=some p.2∧listed.getD p.1 true=false:=fun p hp=>by
      obtain⟨q1,q2,q3,q4⟩:=g3 p hp
      refine⟨by omega,q2,?_,q4⟩
      have:p.1-k=(p.1-(k+1))+1:=by omega
      rw[this];simpa using q3
     cases hl:listed.getD k true with
     | true =>
      refine⟨R1,R2,?_,?_,up⟩
      · rw[← g1];simp only[nX,num,List.filter_cons,hl];simp
      · rw[← g2];simp only[nX,num,List.filter_cons,hne,hl];simp
     | false =>
      refine⟨(k,x)::R1,R2,?_,?_,fun p hp=>?_⟩
      · rw[List.cons_append,← g1];simp only[nX,num,List.filter_cons,hl];simp
      · rw[List.cons_append,← g2];simp only[nX,num,List.filter_cons,hne,hl];simp
      · rcases List.mem_cons.1 hp with rfl | hp
        · exact⟨Nat.le_refl _,by simp only;omega,by simp,hl⟩
        · exact up p hp
theorem EX {x:Nat}:∀ {l acc:List Nat},x∈xP acc l↔x∈acc∨x∈l
 | [],acc=>by simp[xP]
 | y::r,acc=>by
  simp only[xP,EX (l:=r),List.mem_cons]
  cases h:dR y acc with
  | true =>
   have:=jr.1 h
   simp only[cond_true]
   constructor
   · rintro (h | h)<;>simp[h]
   · rintro (h | rfl | h)<;>simp[*]
  | false =>
   simp only[cond_false,List.mem_cons]
   constructor
   · rintro ((h | h) | h)<;>simp[h]
   · rintro (h | h | h)<;>simp[h]
theorem O7 {done : List (List Nat)} {x : Nat} : ∀ {l : List Edge} {acc : List Nat},x ∈ l.foldl (fun acc e => match e.ground with
    | .textOnly _=>acc
    | .gcOnly _=>acc
    | _=>xP (xP acc [e.on]) (done.getD e.on [])) acc→x∈acc∨∃ e∈l,Region.binds .any e=true∧(x=e.on∨x∈done.getD e.on [])
  | [],acc,h=>.inl h
  | e::r,acc,h=>by
   simp only[List.foldl_cons]at h
   rcases O7 h with h | ⟨e',h1,h2⟩
   · have hb : (∀ d,e.ground ≠ .textOnly d) → (∀ d,e.ground ≠ .gcOnly d) → Region.binds .any e = true := by
       intro g1 g2
       unfold Region.binds
       cases hg:e.ground<;>simp_all
     have sub:x∈xP (xP acc [e.on]) (done.getD e.on [])→x∈acc∨(x=e.on∨x∈done.getD e.on []):=by
      intro h
      rw[EX,EX]at h
      simp only[List.mem_singleton]at h
      rcases h with (h | h) | h
      · exact .inl h
      · exact .inr (.inl h)
      · exact .inr (.inr h)
     cases hg:e.ground with
     | textOnly d=>rw[hg]at h;exact .inl h
     | gcOnly d=>rw[hg]at h;exact .inl h
     | _ =>
      rw[hg]at h
      rcases sub h with h | h
      · exact .inl h
      · exact .inr ⟨e,by simp,hb (by simp[hg]) (by simp[hg]),h⟩
   · exact .inr ⟨e',by simp[h1],h2⟩
theorem Eb : ∀ {l : List Oper} {acc : List (List Nat)},(∀ n,n < acc.length → (bH l acc)[n]? = acc[n]?) ∧
    ∀ n o,l[n]?=some o→∃ done,(bH l acc)[acc.length+n]?=some (CZ done o)∧∀ m,done.getD m []=[]∨done.getD m []=(bH l acc).getD m []
  | [],acc=>⟨fun n _=>rfl,fun n o h=>by simp at h⟩
  | x::r,acc=>by
   obtain⟨h1,h2⟩:=Eb (l:=r) (acc:=acc++[CZ acc x])
   have e:bH (x::r) acc=bH r (acc++[CZ acc x]):=rfl
   rw[e]
   have pre:∀ n,n<acc.length→(bH r (acc++[CZ acc x]))[n]?=acc[n]?:=fun n hn=>by
    rw[h1 n (by simp;omega),List.getElem?_append_left hn]
   refine⟨pre,fun n o hn=>?_⟩
   cases n with
   | zero =>
    simp at hn;subst hn
    refine⟨acc,?_,fun m=>?_⟩
    · rw[Nat.add_zero,h1 acc.length (by simp)];simp
    · by_cases hm:m<acc.length
      · right;rw[qLb,qLb,pre m hm]
      · left;rw[qLb,List.getElem?_eq_none (by omega)];rfl
   | succ n =>
    simp at hn
    obtain⟨done,h3,h4⟩:=h2 n o hn
    refine⟨done,?_,h4⟩
    rw[← h3]
    congr 1
    simp only[List.length_append,List.length_singleton];omega
theorem Gu {i x:Nat} {o:Oper} (ho:all[i]?=some o) (hx:x∈(bH all []).getD i []):∃ e∈o.after,Region.binds .any e=true∧(x=e.on∨x∈(bH all []).getD e.on []):=by
 obtain⟨_,h⟩:=Eb (l:=all) (acc:=[])
 obtain⟨done,h1,h2⟩:=h i o ho
 simp only[List.length_nil,Nat.zero_add]at h1
 rw[qLb,h1]at hx
 simp only[Option.getD_some]at hx
 unfold CZ at hx
 rcases O7 hx with h3 | ⟨e,h3,h4,h5⟩
 · simp at h3
 · refine⟨e,by simpa using h3,h4,h5.imp id fun h5=>?_⟩
   rcases h2 e.on with h6 | h6
   · rw[h6]at h5;simp at h5
   · rw[h6]at h5;exact h5
theorem oG {tab:List (List Nat)}:∀ {l:List Oper} {k:Nat},xQ T all tab hd k l=true→∀ n o,l[n]?=some o→C9 (k+n) o=true∧Lc T all hd (tab.getD (k+n) []) (k+n) o 0 all=true
 | [],k,_,n,o,h=>by simp at h
 | x::r,k,h,n,o,ho=>by
  simp only[xQ,qBa]at h
  cases n with
  | zero=>simp at ho;subst ho;exact⟨h.1.1,h.1.2⟩
  | succ n =>
   simp at ho
   have:=oG h.2 n o ho
   rw[show k+1+n=k+(n+1) from by omega]at this
   exact this
theorem MO {SE:List Nat} {j:Nat} {o:Oper}:∀ {l:List Oper} {k:Nat},Lc T all hd SE j o k l=true→∀ n x,l[n]?=some x→k+n<j→k+n ∉ SE→uw T all (hd.getD (k+n) []) (hd.getD j []) x o=true
 | [],k,_,n,x,h=>by simp at h
 | y::r,k,h,n,x,hx=>by
  intro hlt hp
  have hkj:Nat.ble j k=false:=by
   cases hb:Nat.ble j k with
   | false=>rfl
   | true=>have:=Nat.le_of_ble_eq_true hb;omega
  simp only[Lc,hkj,cond_false,qBa]at h
  cases n with
  | zero =>
   simp at hx;subst hx
   have h1:=h.1
   rw[dL.2 (by simpa using hp)]at h1
   simpa using h1
  | succ n =>
   simp at hx
   have e:k+(n+1)=k+1+n:=by omega
   rw[e]at hlt hp ⊢
   exact MO h.2 n x hx hlt hp
theorem Gw {j:Nat} {o:Oper} (h:C9 j o=true) {e:Edge} (he:e∈o.after) (hb:Region.binds .any e=true):e.on<j:=by
 unfold C9 at h
 have:=List.all_eq_true.1 h e (by simpa using he)
 unfold Region.binds at hb
 split at this
 · rename_i hg;rw[hg]at hb;simp at hb
 · rename_i hg;rw[hg]at hb;simp at hb
 · exact Nat.le_of_ble_eq_true this
theorem xZ {all:List Oper} {tab:List (List Nat)} {j s:Nat} {x:Oper}:∀ {l:List Oper} {k n:Nat},l[n]?=some x→k+n≠j→k+n ∉ tab.getD j []→j ∉ tab.getD (k+n) []→s∈fG all x→s∈uy T all tab j k l
 | [],k,n,h=>by simp at h
 | y::r,k,n,h=>by
  intro h1 h2 h3 h4
  simp only[uy]
  cases n with
  | zero =>
   simp at h;subst h
   have:(k==j||dR k (tab.getD j [])||dR j (tab.getD k []))=false:=by
    have e1:(k==j)=false:=by simpa using h1
    rw[e1,dL.2 (by simpa using h2),dL.2 (by simpa using h3)];rfl
   rw[this]
   simp[h4]
  | succ n =>
   simp at h
   have e:k+(n+1)=k+1+n:=by omega
   rw[e]at h1 h2 h3
   have:=xZ (k:=k+1) h h1 h2 h3 h4
   cases (k==j||dR k (tab.getD j [])||dR j (tab.getD k []))<;>simp[this]
theorem Jb:∀ {a b:List (List Nat)},mG a b=true→a=b
 | [],[],_=>rfl
 | x::xs,y::ys,h=>by
  simp only[mG,qBa,beq_iff_eq]at h
  rw[h.1,Jb h.2]
 | [],_::_,h=>by simp[mG]at h
 | _::_,[],h=>by simp[mG]at h
section
variable (hok:xQ T all (bH all []) hd 0 all=true)
include hok
theorem pred_lt:∀ {i x:Nat} {o:Oper},all[i]?=some o→x∈(bH all []).getD i []→x<i:=by
 intro i
 induction i using Nat.strongRecOn with
 | _ i ih =>
  intro x o ho hx
  obtain⟨e,h1,h2,h3⟩:=Gu ho hx
  have hb:=(oG hok i o ho).1
  rw[Nat.zero_add]at hb
  have hlt:=Gw hb h1 h2
  rcases h3 with rfl | h3
  · exact hlt
  · have hl : e.on < all.length := by
      have:=(qLa.1 ho).1
      omega
    have:=ih e.on hlt (x:=x) (o:=all[e.on]) (by simp) h3
    omega
theorem open_pair (hhd : mG hd (zS T all) = true) {i j : Nat} {o x : Oper} (hi : all[i]? = some o) (hj : all[j]? = some x) (hlt : j < i) (hp : j ∉ (bH all []).getD i []) :
    uw T all (hd.getD j []) (hd.getD i []) x o=true∧(∀ s∈fG all x,s∈hd.getD i [])∧(∀ s∈fG all o,s∈hd.getD j []):=by
  have hh:=Jb hhd
  have hget:∀ n,n<all.length→hd.getD n []=uy T all (bH all []) n 0 all:=by
   intro n hn
   rw[hh]
   simp[zS,hn]
  have hil:=(qLa.1 hi).1
  have hjl:=(qLa.1 hj).1
  have hij:i ∉ (bH all []).getD j []:=fun h=>by have:=pred_lt hok hj h;omega
  refine⟨?_,fun s hs=>?_,fun s hs=>?_⟩
  · have:=MO (oG hok i o hi).2 j x hj (by omega) (by simpa using hp)
    simpa using this
  · rw[hget i hil]
    exact xZ (k:=0) (n:=j) hj (by omega) (by simpa using hp) (by simpa using hij) hs
  · rw[hget j hjl]
    exact xZ (k:=0) (n:=i) hi (by omega) (by simpa using hij) (by simpa using hp) hs
end
end
end Go.Skm
namespace Go.Skm
section
variable {P:Program} {T:Tab} {C:aA} {cx:Cx} {st st':St} {a:Act} {w:World}
theorem Inv.same (i:Inv cx st a w) (h:Same st st'):Inv cx st' a w:=by
 obtain⟨M,β,L,ds,r,i1,i2,i3,fx⟩:=i
 have r':=r.congr (hp:=st'.heap) fun s=>by rw[h.2]
 have e:({ st with heap:=st'.heap }:St)=st':=by
  cases st;cases st';simp only[St.mk.injEq,and_true];exact h.1
 rw[e]at r'
 refine⟨M,β,L,ds,r',i1,fun s hs b hb=>i2 s hs b ?_,i3,fx.less (fun p hp=>rfl) fun b ho=>?_⟩
 · rw[h.2];exact hb
 · obtain⟨s,o,hs,hb⟩:=ho
   exact⟨s,o,by rw[h.2];exact hs,hb⟩
theorem Inv.drew (i:Inv cx st a w):Inv cx st a { w with drawn:=w.drawn+1 }:=by
 obtain⟨M,β,L,ds,r,i1,i2,i3,fx⟩:=i
 exact⟨M,β,L,ds,r.world (w':={ w with drawn:=w.drawn+1 }) (Nat.le_refl _) rfl rfl rfl (fun _ _ _=>rfl) (fun b n _ _ _ h=>h) (fun b h=>h) (fun b h=>.inl h),i1,i2,i3.trans fun _=>Nat.le_succ _,fx.less (fun p hp=>rfl) fun _ h=>h⟩
theorem Gx {β:Nat→Option (Nat × Nat)} {ss:List Nat} {b:Nat} (h:kN β (st.strike ss).heap b):kN β st.heap b:=by
 obtain⟨s,o,hs,hb⟩:=h
 refine⟨s,o,?_,hb⟩
 rw[bU]at hs
 by_cases hm:s∈ss
 · rw[if_pos hm]at hs;cases hs
 · rw[if_neg hm]at hs;simpa using hs
theorem Inv.strike (i:Inv cx st a w) (ss:List Nat):Inv cx (st.strike ss) a w:=by
 obtain⟨M,β,L,ds,r,i1,i2,i3,fx⟩:=i
 exact⟨M,β,L,ds,r.strike ss (fun b h=>h) fun b h=>.inl h,i1,i2.trans (wU st ss),i3,fx.less (fun p hp=>rfl) fun _ ho=>Gx ho⟩
theorem WR (ok : bJ P T) (hC : fZ P T cx.w0.gl C) {ops : Array Oper} {hd : List (List Nat)} (hok : xQ T ops.toList (bH ops.toList []) hd 0 ops.toList = true) (hhd : mG hd (zS T ops.toList) = true)
    {Q:Exit→Act→World→Prop} {fin:St} (hQ:∀ a w,Inv cx fin a w→Q .normal a w) (hw:∀ o∈ops.toList,wX cx o) {rd:Option Nat} {n:Nat} :
    ∀ (fuel:Nat) (listed:Array Bool) (st:St) (a:Act) (w:World),fuel=(nX listed (num 0 ops.toList)).length →
     (∀ q,listed.getD q false=true→∀ p∈(bH ops.toList []).getD q [],listed.getD p false=true)→listed.size=ops.size →
     Gt T C hd ops.toList (nX listed (num 0 ops.toList)) st fin→Inv cx st a w→wpAnyIn (FW rd) n P .any ops Q fuel listed a w:=by
  intro fuel
  induction fuel with
  | zero =>
   intro listed st a w hf hcl hsz hr i
   have h0:nX listed (num 0 ops.toList)=[]:=List.length_eq_zero_iff.1 hf.symm
   rw[h0]at hr
   refine⟨?_,hQ a w (i.same hr)⟩
   rw[List.eq_nil_iff_forall_not_mem]
   intro j hj
   obtain⟨h1,o,h2,_⟩:=mem_ready.1 hj
   obtain⟨R1,R2,g1,_⟩:=vV h1 (l:=ops.toList) (k:=0) (o:=o) (by omega) (by simpa using h2)
   rw[h0]at g1
   simp at g1
  | succ fuel ih =>
   intro listed st a w hf hcl hsz hr i
   refine⟨fun hnil=>?_,fun j hj=>?_⟩
   · -- the first that is not listed is ready
     exfalso
     cases hL:nX listed (num 0 ops.toList) with
     | nil=>rw[hL]at hf;simp at hf
     | cons p r =>
      have hex:∃ n,n<ops.size∧listed.getD n true=false:=by
       have hp:p∈nX listed (num 0 ops.toList):=by rw[hL];simp
       unfold nX at hp
       rw[List.mem_filter]at hp
       have h1:listed.getD p.1 true=false:=by simpa using hp.2
       refine⟨p.1,?_,h1⟩
       rcases Nat.lt_or_ge p.1 listed.size with h' | h'
       · omega
       · simp[Array.getElem?_eq_none h']at h1
      have hmin:∃ n,(n<ops.size∧listed.getD n true=false)∧∀ m,m<n→¬ (m<ops.size∧listed.getD m true=false):=by
       obtain⟨n,hn⟩:=hex
       induction n using Nat.strongRecOn with
       | _ n ihn =>
        by_cases hm:∃ m,m<n∧(m<ops.size∧listed.getD m true=false)
        · obtain⟨m,h1,h2⟩:=hm;exact ihn m h1 h2
        · exact⟨n,hn,fun m h1 h2=>hm ⟨m,h1,h2⟩⟩
      obtain⟨n,⟨h1,h2⟩,h3⟩:=hmin
      have:n∈Region.ready .any ops listed:=by
       rw[mem_ready]
       refine⟨h2,ops[n],by simp,fun e he hb=>?_⟩
       have hlt:=Gw (oG hok n ops[n] (by simp)).1 he hb
       rw[Nat.zero_add]at hlt
       have:=h3 e.on hlt
       have hl:e.on<ops.size:=by omega
       have hl':e.on<listed.size:=by omega
       cases hb':listed.getD e.on true with
       | false=>exact absurd ⟨hl,hb'⟩ this
       | true=>simpa [hl'] using hb'
      rw[hnil]at this;simp at this
   · obtain⟨h1,o,h2,h3⟩:=mem_ready.1 hj
     have h2':ops.toList[j]?=some o:=by simpa using h2
     obtain⟨R1,R2,g1,g2,g3⟩:=vV h1 (l:=ops.toList) (k:=0) (o:=o) (by omega) (by simpa using h2)
     have hpre:∀ p∈(bH ops.toList []).getD j [],listed.getD p false=true:=by
      intro p hp
      obtain⟨e,q1,q2,q3⟩:=Gu h2' hp
      rcases q3 with rfl | q3
      · exact h3 e q1 q2
      · exact hcl e.on (h3 e q1 q2) p q3
     rw[g1]at hr hf
     obtain⟨st1,k1,k2⟩:=front hr fun p hp=>by
      obtain⟨q1,q2,q3,q4⟩:=g3 p hp
      refine open_pair hok hhd h2' (by simpa using q3) q2 fun hm=>?_
      have:=hpre p.1 hm
      have hl:p.1<listed.size:=by
       have:=(qLa.1 q3).1
       simp at this;omega
      simp[hl]at q4 this
      rw[q4]at this;cases this
     have hs:=abx ok hC rfl (hw o (qLe h2')) i k1 (rd:=rd) (n:=n) (K:=wpAnyIn (FW rd) n P .any ops Q fuel (listed.setIfInBounds j true)) (fun a' w' i'=>ih (listed.setIfInBounds j true) st1 a' w' (by
      rw[g2];simp only[List.length_append,List.length_cons]at hf ⊢;omega) (fun q hq p hp=>by
      by_cases hjq:j=q
      · subst hjq;exact getD_set_true (hpre p hp)
      · rw[getD_set_ne false hjq]at hq
        exact getD_set_true (hcl q hq p hp)) (by simpa using hsz) (by rw[g2];exact k2) i') (Q:=Q)
     unfold wpOpIn
     rw[h2]
     simp only
     split
     · rename_i hw;rw[if_pos hw]at hs;exact hs
     · rename_i hw;rw[if_neg hw]at hs;exact⟨fun _ _=>trivial,hs⟩
theorem Gy {l:List Nat}:∀ {n m:Nat},F6 l n=true→m<n→m∈l
 | 0,m,_,h=>by omega
 | n+1,m,ha,h=>by
  simp only[F6,qBa]at ha
  by_cases e:m=n
  · subst e;exact jr.1 ha.1
  · exact Gy ha.2 (by omega)
theorem Ii {tab:List (List Nat)} {j:Nat}:∀ {l:List Oper} {k n:Nat} {o:Oper},lI tab j k l=true→l[n]?=some o→j≤k+n→∀ m,m<k+n→m∈tab.getD (k+n) []
 | [],k,n,o,_,h=>by simp at h
 | x::r,k,0,o,hc,h=>by
  intro hj m hm
  simp only[lI,qBa,Bool.or_eq_true]at hc
  rcases hc.1 with h1 | h1
  · have:k<j:=by simpa [Nat.blt_eq] using h1
    omega
  · exact Gy h1 hm
 | x::r,k,n+1,o,hc,h=>by
  intro hj m hm
  simp only[lI,qBa]at hc
  simp at h
  have:=Ii (n:=n) hc.2 h (by omega) m (by omega)
  rw[show k+1+n=k+(n+1) from by omega]at this
  exact this
theorem Vm {ops : Array Oper} {hd : List (List Nat)} (hok : xQ T ops.toList (bH ops.toList []) hd 0 ops.toList = true) {j : Nat} (hch : lI (bH ops.toList []) j 0 ops.toList = true) {F : Fence} {n : Nat} {Q : Exit → Act → World → Prop} :
    ∀ (l:List Oper) (i:Nat) (listed:Array Bool) (a:Act) (w:World),j≤i→ops.toList.drop i=l→listed.size=ops.size→(∀ q,q<ops.size→listed.getD q false=decide (q<i))→wpListIn F n P ops Q l a w→wpAnyIn F n P .any ops Q l.length listed a w:=by
  have gd:∀ (listed:Array Bool) (q:Nat),q<listed.size→listed.getD q true=listed.getD q false:=fun listed q h=>by simp[h]
  intro l
  induction l with
  | nil =>
   intro i listed a w hji hdr hsz hls h
   refine⟨?_,h⟩
   rw[List.eq_nil_iff_forall_not_mem]
   intro q hq
   obtain⟨h1,o,h2,_⟩:=mem_ready.1 hq
   have hlt:q<ops.size:=(qAa.1 h2).1
   rw[gd listed q (by omega),hls q hlt]at h1
   have:ops.toList.length≤i:=List.drop_eq_nil_iff.1 hdr
   simp at this h1
   omega
  | cons o r ih =>
   intro i listed a w hji hdr hsz hls h
   have hi:ops.toList[i]?=some o:=by
    have:(ops.toList.drop i)[0]?=some o:=by rw[hdr];rfl
    simpa using this
   have hr:ops.toList.drop (i+1)=r:=by
    rw[← List.drop_drop,hdr];rfl
   have hi':ops[i]?=some o:=by simpa using hi
   have hil:i<ops.size:=(qAa.1 hi').1
   have hrd:i∈Region.ready .any ops listed:=by
    rw[mem_ready]
    refine⟨by rw[gd listed i (by omega),hls i hil];simp,o,hi',fun e he hb=>?_⟩
    have hlt:=Gw (oG hok i o hi).1 he hb
    rw[Nat.zero_add]at hlt
    rw[hls e.on (by omega)]
    simpa using hlt
   refine⟨fun h0=>by rw[h0]at hrd;simp at hrd,fun q hq=>?_⟩
   obtain⟨h1,oq,h2,h3⟩:=mem_ready.1 hq
   have hql:q<ops.size:=(qAa.1 h2).1
   have hqi:i≤q:=by
    rw[gd listed q (by omega),hls q hql]at h1
    simpa using h1
   have hqe:q=i:=by
    by_cases e:q=i
    · exact e
    · exfalso
      have hm:i∈(bH ops.toList []).getD q []:=by
       have:=Ii (k:=0) (n:=q) (o:=oq) hch (by simpa using h2) (by omega) i (by omega)
       simpa using this
      obtain⟨e',q1,q2,q3⟩:=Gu (by simpa using h2) hm
      have he:=h3 e' q1 q2
      have hel:=Gw (oG hok q oq (by simpa using h2)).1 q1 q2
      rw[Nat.zero_add]at hel
      rw[hls e'.on (by omega)]at he
      have he:e'.on<i:=by simpa using he
      rcases q3 with q3 | q3
      · omega
      · have:=pred_lt hok (i:=e'.on) (x:=i) (o:=ops.toList[e'.on]'(by simp;omega)) (by simp) q3
        omega
   subst hqe
   rw[hi']at h2;cases h2
   unfold wpListIn at h
   unfold wpOpIn
   rw[hi']
   simp only
   have akG:∀ k,k<ops.size→(listed.setIfInBounds q true).getD k false=decide (k<q+1):=fun k hk=>by
    by_cases e:q=k
    · subst e
      have:q<listed.size:=by omega
      simp[this]
    · rw[getD_set_ne false e,hls k hk]
      by_cases h':k<q
      · simp[h',show k<q+1 by omega]
      · simp[h',show ¬ k<q+1 by omega]
   have next:∀ a w,wpListIn F n P ops Q r a w→wpAnyIn F n P .any ops Q r.length (listed.setIfInBounds q true) a w:=fun a w h=>ih (q+1) (listed.setIfInBounds q true) a w (by omega) hr (by simpa using hsz) akG h
   split
   · rename_i hw;rw[if_pos hw]at h;exact Oper.wpIn_mono next h
   · rename_i hw;rw[if_neg hw]at h;exact⟨h.1,next _ _ h.2⟩
theorem O8 {p:Nat × Oper}:∀ {l:List Oper} {k:Nat},p∈num k l→k≤p.1∧p.1<k+l.length
 | [],k,h=>by simp[num]at h
 | o::r,k,h=>by
  simp only[num,List.mem_cons]at h
  rcases h with rfl | h
  · simp
  · have:=O8 h
    simp only[List.length_cons]
    omega
theorem ZW (ok : bJ P T) (hC : fZ P T cx.w0.gl C) {ops : Array Oper} {hd : List (List Nat)} (hok : xQ T ops.toList (bH ops.toList []) hd 0 ops.toList = true) (hhd : mG hd (zS T ops.toList) = true)
    {jc:Nat} (hjc:jc≤ops.size) (hch:lI (bH ops.toList []) jc 0 ops.toList=true) {rd:Option Nat} {n:Nat}
    {Q:Exit→Act→World→Prop} {fin:St} (hQ:∀ a w,Inv cx fin a w→wpListIn (FW rd) n P ops Q (ops.toList.drop jc) a w) (hw:∀ o∈ops.toList,wX cx o) :
    ∀ (fuel:Nat) (listed:Array Bool) (st:St) (a:Act) (w:World),fuel=(nX listed (num 0 (ops.toList.take jc))).length→(∀ q,jc≤q→q<ops.size→listed.getD q false=false) →
     (∀ q,listed.getD q false=true→∀ p∈(bH ops.toList []).getD q [],listed.getD p false=true)→listed.size=ops.size →
     Gt T C hd ops.toList (nX listed (num 0 (ops.toList.take jc))) st fin→Inv cx st a w→wpAnyIn (FW rd) n P .any ops Q (fuel+(ops.size-jc)) listed a w:=by
  intro fuel
  induction fuel with
  | zero =>
   intro listed st a w hf hun hcl hsz hr i
   have h0:nX listed (num 0 (ops.toList.take jc))=[]:=List.length_eq_zero_iff.1 hf.symm
   rw[h0]at hr
   have hls:∀ q,q<ops.size→listed.getD q false=decide (q<jc):=fun q hq=>by
    by_cases e:q<jc
    · have hlt:q<listed.size:=by omega
      cases hb:listed.getD q false with
      | true=>simp[e]
      | false =>
       exfalso
       have h1:listed.getD q true=false:=by simpa [hlt] using hb
       obtain⟨R1,R2,g1,_⟩:=vV h1 (l:=ops.toList.take jc) (k:=0) (o:=ops.toList[q]'(by simpa using hq)) (by omega) (by
        rw[Nat.sub_zero,List.getElem?_take_of_lt e]
        simp)
       rw[h0]at g1
       simp at g1
    · rw[hun q (by omega) hq];simp[e]
   have hlen:(ops.toList.drop jc).length=ops.size-jc:=by simp
   rw[Nat.zero_add,← hlen]
   exact Vm hok hch (ops.toList.drop jc) jc listed a w (Nat.le_refl _) rfl hsz hls (hQ a w (i.same hr))
  | succ fuel ih =>
   intro listed st a w hf hun hcl hsz hr i
   rw[show fuel+1+(ops.size-jc)=(fuel+(ops.size-jc))+1 from by omega]
   refine⟨fun hnil=>?_,fun j hj=>?_⟩
   · -- the first that is not listed is ready
     exfalso
     cases hL:nX listed (num 0 (ops.toList.take jc)) with
     | nil=>rw[hL]at hf;simp at hf
     | cons p r =>
      have hex:∃ n,n<ops.size∧listed.getD n true=false:=by
       have hp:p∈nX listed (num 0 (ops.toList.take jc)):=by rw[hL];simp
       unfold nX at hp
       rw[List.mem_filter]at hp
       have h1:listed.getD p.1 true=false:=by simpa using hp.2
       refine⟨p.1,?_,h1⟩
       rcases Nat.lt_or_ge p.1 listed.size with h' | h'
       · omega
       · simp[Array.getElem?_eq_none h']at h1
      have hmin:∃ n,(n<ops.size∧listed.getD n true=false)∧∀ m,m<n→¬ (m<ops.size∧listed.getD m true=false):=by
       obtain⟨n,hn⟩:=hex
       induction n using Nat.strongRecOn with
       | _ n ihn =>
        by_cases hm:∃ m,m<n∧(m<ops.size∧listed.getD m true=false)
        · obtain⟨m,h1,h2⟩:=hm;exact ihn m h1 h2
        · exact⟨n,hn,fun m h1 h2=>hm ⟨m,h1,h2⟩⟩
      obtain⟨n,⟨h1,h2⟩,h3⟩:=hmin
      have:n∈Region.ready .any ops listed:=by
       rw[mem_ready]
       refine⟨h2,ops[n],by simp,fun e he hb=>?_⟩
       have hlt:=Gw (oG hok n ops[n] (by simp)).1 he hb
       rw[Nat.zero_add]at hlt
       have:=h3 e.on hlt
       have hl:e.on<ops.size:=by omega
       have hl':e.on<listed.size:=by omega
       cases hb':listed.getD e.on true with
       | false=>exact absurd ⟨hl,hb'⟩ this
       | true=>simpa [hl'] using hb'
      rw[hnil]at this;simp at this
   · obtain⟨h1,o,h2,h3⟩:=mem_ready.1 hj
     have h2':ops.toList[j]?=some o:=by simpa using h2
     have hjl:j<ops.size:=(qAa.1 h2).1
     have hpre0:∀ p∈(bH ops.toList []).getD j [],listed.getD p false=true:=by
      intro p hp
      obtain⟨e,q1,q2,q3⟩:=Gu h2' hp
      rcases q3 with rfl | q3
      · exact h3 e q1 q2
      · exact hcl e.on (h3 e q1 q2) p q3
     have hjj:j<jc:=by
      by_cases e:j<jc
      · exact e
      · exfalso
        have hp0:∃ p,p∈nX listed (num 0 (ops.toList.take jc)):=by
         cases hL:nX listed (num 0 (ops.toList.take jc)) with
         | nil=>rw[hL]at hf;simp at hf
         | cons p r=>exact⟨p,by simp⟩
        obtain⟨p,hp⟩:=hp0
        unfold nX at hp
        rw[List.mem_filter]at hp
        have hb:=O8 hp.1
        have hpl:p.1<jc:=by
         have:=hb.2
         simp at this;omega
        have h1:listed.getD p.1 true=false:=by simpa using hp.2
        have hm:p.1∈(bH ops.toList []).getD j []:=by
         have:=Ii (k:=0) (n:=j) (o:=o) hch h2' (by omega) p.1 (by omega)
         simpa using this
        have:=hpre0 p.1 hm
        have hps:p.1<listed.size:=by omega
        simp[hps]at h1 this
        rw[h1]at this;cases this
     obtain⟨R1,R2,g1,g2,g3⟩:=vV h1 (l:=ops.toList.take jc) (k:=0) (o:=o) (by omega) (by rw[Nat.sub_zero,List.getElem?_take_of_lt hjj];exact h2')
     have hpre:∀ p∈(bH ops.toList []).getD j [],listed.getD p false=true:=by
      intro p hp
      obtain⟨e,q1,q2,q3⟩:=Gu h2' hp
      rcases q3 with rfl | q3
      · exact h3 e q1 q2
      · exact hcl e.on (h3 e q1 q2) p q3
     rw[g1]at hr hf
     obtain⟨st1,k1,k2⟩:=front hr fun p hp=>by
      obtain⟨q1,q2,q3,q4⟩:=g3 p hp
      have q3':ops.toList[p.1]?=some p.2:=by
       have:p.1<jc:=by omega
       rw[Nat.sub_zero,List.getElem?_take_of_lt this]at q3
       exact q3
      refine open_pair hok hhd h2' q3' q2 fun hm=>?_
      have:=hpre p.1 hm
      have hl:p.1<listed.size:=by
       have:=(qLa.1 q3').1
       simp at this;omega
      simp[hl]at q4 this
      rw[q4]at this;cases this
     have hs:=abx ok hC rfl (hw o (qLe h2')) i k1 (rd:=rd) (n:=n) (K:=wpAnyIn (FW rd) n P .any ops Q (fuel+(ops.size-jc)) (listed.setIfInBounds j true)) (fun a' w' i'=>ih (listed.setIfInBounds j true) st1 a' w' (by
      rw[g2];simp only[List.length_append,List.length_cons]at hf ⊢;omega) (fun q hq1 hq2=>by
      rw[getD_set_ne false (show j≠q by omega)]
      exact hun q hq1 hq2) (fun q hq p hp=>by
      by_cases hjq:j=q
      · subst hjq;exact getD_set_true (hpre p hp)
      · rw[getD_set_ne false hjq]at hq
        exact getD_set_true (hcl q hq p hp)) (by simpa using hsz) (by rw[g2];exact k2) i') (Q:=Q)
     unfold wpOpIn
     rw[h2]
     simp only
     split
     · rename_i hw;rw[if_pos hw]at hs;exact hs
     · rename_i hw;rw[if_neg hw]at hs;exact⟨fun _ _=>trivial,hs⟩
theorem zW:∀ (l:List Oper) (k:Nat),(num k l).length=l.length
 | [],_=>rfl
 | o::r,k=>by simp[num,zW r]
theorem Du {n:Nat}:∀ {l:List Oper} {k:Nat},k+l.length≤n→nX (Array.replicate n false) (num k l)=num k l
 | [],_,_=>rfl
 | o::r,k,h=>by
  simp only[List.length_cons]at h
  have:=Du (n:=n) (l:=r) (k:=k+1) (by omega)
  unfold nX at this ⊢
  have hk:(Array.replicate n false).getD k true=false:=by
   have:k<n:=by omega
   simp[this]
  simp only[num,List.filter_cons,hk,this];simp
theorem TN (ok : bJ P T) (hC : fZ P T cx.w0.gl C) {α : Type} {id : Nat} {ops : Array Oper} {hd : List (List Nat)} (hok : xQ T ops.toList (bH ops.toList []) hd 0 ops.toList = true) (hhd : mG hd (zS T ops.toList) = true)
    {rd:Option Nat} {n:Nat} {Q:Exit→Act→World→Prop} {k:St→Option α} {x:α} (hr:dA T C true hd ops.toList ops.toList 0 st k=some x) (hw:∀ o∈ops.toList,wX cx o) (i:Inv cx st a w)
    (hQ:∀ st' a' w',k st'=some x→Inv cx st' a' w'→Q .normal a' w'):(Code.region id ops true).wpIn (FW rd) n P Q a w:=by
  obtain⟨fin,h1,h2⟩:=Cc hr
  have e:nX (Array.replicate ops.size false) (num 0 ops.toList)=num 0 ops.toList:=Du (by simp)
  refine wpIn_region_any ok.mixed (WR ok hC hok hhd (fun a w i=>hQ fin a w h2 i) hw ops.size (Array.replicate ops.size false) st a _ ?_ ?_ (by simp) (by rw[e];exact h1) i.drew)
  · rw[e,zW];simp
  · intro q hq
    by_cases hl:q<ops.size<;>simp[hl]at hq
theorem WS (ok : bJ P T) (hC : fZ P T cx.w0.gl C) {α : Type} {id : Nat} {ops : Array Oper} {hd : List (List Nat)} (hok : xQ T ops.toList (bH ops.toList []) hd 0 ops.toList = true) (hhd : mG hd (zS T ops.toList) = true)
    {jc:Nat} (hch:lI (bH ops.toList []) jc 0 ops.toList=true) {rd:Option Nat} {n:Nat} {Q:Exit→Act→World→Prop} {k:St→Option α} {x:α} (hr:dA T C true hd ops.toList (ops.toList.take jc) 0 st k=some x) (hw:∀ o∈ops.toList,wX cx o) (i:Inv cx st a w)
    (hQ:∀ st' a' w',k st'=some x→Inv cx st' a' w'→(∃ l,Gt T C hd ops.toList l st st')→wpListIn (FW rd) n P ops Q (ops.toList.drop jc) a' w'):(Code.region id ops true).wpIn (FW rd) n P Q a w:=by
  obtain⟨fin,h1,h2⟩:=Cc hr
  by_cases hjc:jc≤ops.size
  · have e:nX (Array.replicate ops.size false) (num 0 (ops.toList.take jc))=num 0 (ops.toList.take jc):=Du (by simp;omega)
    have hlen:(num 0 (ops.toList.take jc)).length=jc:=by rw[zW];simp;omega
    have main:=ZW ok hC hok hhd hjc hch (rd:=rd) (n:=n) (Q:=Q) (fun a w i=>hQ fin a w h2 i ⟨_,h1⟩) hw jc (Array.replicate ops.size false) st a { w with drawn:=w.drawn+1 } (by rw[e,hlen]) (fun q _ hq=>by simp[hq]) (by
     intro q hq
     by_cases hl:q<ops.size<;>simp[hl]at hq) (by simp) (by rw[e];exact h1) i.drew
    rw[show jc+(ops.size-jc)=ops.size from by omega]at main
    exact wpIn_region_any ok.mixed main
  · have et:ops.toList.take jc=ops.toList:=List.take_of_length_le (by simp;omega)
    have ed:ops.toList.drop jc=[]:=List.drop_eq_nil_iff.2 (by simp;omega)
    have e:nX (Array.replicate ops.size false) (num 0 ops.toList)=num 0 ops.toList:=Du (by simp)
    rw[et]at h1
    refine wpIn_region_any ok.mixed (WR ok hC hok hhd (fun a w i=>by have:=hQ fin a w h2 i ⟨_,h1⟩;rw[ed]at this;exact this) hw ops.size (Array.replicate ops.size false) st a _ ?_ ?_ (by simp) (by rw[e];exact h1) i.drew)
    · rw[e,zW];simp
    · intro q hq
      by_cases hl:q<ops.size<;>simp[hl]at hq
theorem MP {ys:List Nat} {ops:List Oper} {j:Nat} (h:UY ys ops=some j):lI (bH ops []) j 0 ops=true:=by
 unfold UY at h
 split at h
 · cases h
 · split at h
   · rename_i j' _
     cases hc:lI (bH ops []) j' 0 ops with
     | false=>rw[hc]at h;cases h
     | true=>rw[hc]at h;cases h;exact hc
   · cases h
theorem TP (ok : bJ P T) (hC : fZ P T cx.w0.gl C) {α : Type} {id : Nat} {ops : Array Oper} {hd : List (List Nat)} (hn : zk cx.hp0) {rd : Option Nat} {n : Nat} {Q : Exit → Act → World → Prop} {k : St → Option α} {x : α} (hr : dA T C false hd ops.toList ops.toList 0 st k = some x)
    (hw:∀ o∈ops.toList,wX cx o) (i:Inv cx st a w)
    (hQ:∀ st' a' w',k st'=some x→Inv cx st' a' w'→Q .normal a' w'):(Code.region id ops false).wpIn (FW rd) n P Q a w :=
  wpIn_region_list (MI ok hC hn hQ ops.toList 0 st a w hw hr i)
end
end Go.Skm
namespace Go.Skm
theorem rP (s d:Nat):∀ (l:List AV) (i:Nat),(AV.DC s d l)[i]?=(l[i]?).map (AV.ren s d)
 | [],i=>by simp[AV.DC]
 | v::r,0=>by simp[AV.DC]
 | v::r,i+1=>by simp[AV.DC,rP s d r i]
theorem jG (s d:Nat):∀ (l:List AV),(AV.DC s d l).length=l.length
 | []=>rfl
 | v::r=>by simp[AV.DC,jG s d r]
theorem Gz (s d:Nat) (v:AV):(AV.ren s d v).leaf=v.leaf:=by
 cases v<;>simp[AV.ren,AV.leaf]
theorem JJ {s d x:Nat} (h:x≠s):xG s d x=x:=by
 have:(x==s)=false:=by simpa using h
 simp[xG,this]
theorem qm {s d:Nat} (hne:s≠d) (x:Nat):∀ {hp:Heap},look hp d=none→look (oz s d hp) x=if x=d then(look hp s).map (aJ.ren s d) else if x=s then none else(look hp x).map (aJ.ren s d)
 | [],_=>by simp[oz,look]
 | (k,b)::r,h=>by
  have hk:k≠d:=by
   rintro rfl;simp[look]at h
  have hk':(k==d)=false:=by simpa using hk
  have hr:look r d=none:=by simpa [look,hk'] using h
  have ih:=qm hne x hr
  simp only[oz,look]
  by_cases hks:k=s
  · subst hks
    have e1:xG k d k=d:=by simp[xG]
    rw[e1]
    by_cases hx:x=d
    · subst hx;simp
    · have e2:(d==x)=false:=by simpa using fun e=>hx e.symm
      rw[e2,if_neg hx]
      simp only[cond_false]
      rw[ih,if_neg hx]
      by_cases hxs:x=k
      · rw[if_pos hxs,if_pos hxs]
      · rw[if_neg hxs,if_neg hxs]
        have e3:(k==x)=false:=by simpa using fun e=>hxs e.symm
        rw[e3];rfl
  · have e1:xG s d k=k:=JJ hks
    rw[e1]
    by_cases hx:x=k
    · subst hx
      simp[hk,hks]
    · have e2:(k==x)=false:=by simpa using fun e=>hx e.symm
      rw[e2]
      simp only[cond_false]
      rw[ih]
      have e3:(k==s)=false:=by simpa using hks
      rw[e3];rfl
theorem AR.renamed {w : World} {M : Nat → Prop} {β β' : Nat → Option (Nat × Nat)} {h h' : Nat → Option aJ} {s d : Nat} (hh : ∀ x blk,h x = some blk → h' (xG s d x) = some (blk.ren s d) ∧ β' (xG s d x) = β x)
    {v:AV} {c:Value} (hv:AR w M β h v c):AR w M β' h' (v.ren s d) c:=by
  induction hv with
  | undef c=>exact .undef c
  | p v c hv=>exact .p v c hv
  | slice x off len a ks xs b o cap h1 hl hb hcap hr=>exact .slice _ off len a ks xs b o cap (hh x _ h1).1 hl ((hh x _ h1).2.trans hb) hcap hr
  | sliceE x off a ks xs base h1 hl=>exact .sliceE _ off a ks xs base (hh x _ h1).1 hl
  | bslice x off len cs b o cap h1 hl hb hcap=>exact .bslice _ off len (AV.DC s d cs) b o cap (hh x _ h1).1 (by rw[jG];exact hl) ((hh x _ h1).2.trans hb) hcap
  | bsliceE x off cs base h1 hl=>exact .bsliceE _ off (AV.DC s d cs) base (hh x _ h1).1 (by rw[jG];exact hl)
  | ptrB x off cs b o h1 hb=>exact .ptrB _ off (AV.DC s d cs) b o (hh x _ h1).1 ((hh x _ h1).2.trans hb)
  | ptrA x idx off a ks xs b o h1 hi hb=>exact .ptrA _ idx off a ks xs b o (hh x _ h1).1 hi ((hh x _ h1).2.trans hb)
  | pI a ks x off b o f hM hx hc hv=>exact .pI a ks x off b o f hM hx hc hv
  | fn f cs vs hn _ ih =>
   refine .fn f _ vs (by rw[jG];exact hn) fun i c hi=>?_
   rw[rP]at hi
   cases hx:cs[i]? with
   | none=>rw[hx]at hi;cases hi
   | some x=>rw[hx]at hi;cases hi;exact ih i x hx
  | agg cs vs hn hl _ ih =>
   refine .agg _ vs (by rw[jG];exact hn) (fun c hc=>?_) fun i c hi=>?_
   · obtain⟨i,hi⟩:=List.mem_iff_getElem?.1 hc
     rw[rP]at hi
     cases hx:cs[i]? with
     | none=>rw[hx]at hi;cases hi
     | some x=>rw[hx]at hi;cases hi;rw[Gz];exact hl x (qLe hx)
   · rw[rP]at hi
     cases hx:cs[i]? with
     | none=>rw[hx]at hi;cases hi
     | some x=>rw[hx]at hi;cases hi;exact ih i x hx
  | nJ cs vs hn _ ih =>
   refine .nJ _ vs (by rw[jG];exact hn) fun i c hi=>?_
   rw[rP]at hi
   cases hx:cs[i]? with
   | none=>rw[hx]at hi;cases hi
   | some x=>rw[hx]at hi;cases hi;exact ih i x hx
  | zq l=>exact .zq l
  | ptrT x off t c0 c1 b h1 hb=>exact .ptrT _ off t (c0.ren s d) (c1.ren s d) b (hh x _ h1).1 ((hh x _ h1).2.trans hb)
  | EF x t es b o h1 hb=>exact .EF _ t es b o (hh x _ h1).1 ((hh x _ h1).2.trans hb)
  | EG x e xs b cap h1 hb hcap h0 hr=>exact .EG _ e xs b cap (hh x _ h1).1 ((hh x _ h1).2.trans hb) hcap h0 hr
  | vK x e h1=>exact .vK _ e (hh x _ h1).1
section
variable {P:Program} {T:Tab} {w0:Base} {Pr M0 M:Nat→Prop} {β QF:Nat→Option (Nat × Nat)} {hp0:Heap} {st st':St} {a:Act} {w:World}
theorem Rel.rename (r : Rel w0 Pr M0 M β st a w) {s d : Nat} (hne : s ≠ d) (hd : look st.heap d = none) (hs : s < ah) :
    Rel w0 Pr M0 M (fun x=>if x=d then β s else β x) { env:=AV.DC s d st.env,heap:=oz s d st.heap } a w:=by
  have hlk:=fun x=>qm (s:=s) (d:=d) hne x hd
  have hh:∀ x blk,look st.heap x=some blk→look (oz s d st.heap) (xG s d x)=some (blk.ren s d)∧(if xG s d x=d then β s else β (xG s d x))=β x:=by
   intro x blk hx
   have hxd:x≠d:=by rintro rfl;rw[hd]at hx;cases hx
   by_cases hxs:x=s
   · subst hxs
     have e:xG x d x=d:=by simp[xG]
     rw[e,hlk,if_pos rfl,hx]
     exact⟨rfl,by simp⟩
   · have e:xG s d x=x:=JJ hxs
     rw[e,hlk,if_neg hxd,if_neg hxs,hx]
     exact⟨rfl,by simp[hxd]⟩
  have key:∀ {v:AV} {c:Value},AR w M β (look st.heap) v c→AR w M (fun x=>if x=d then β s else β x) (look (oz s d st.heap)) (v.ren s d) c:=fun h=>h.renamed hh
  have from_:∀ x blk',look (oz s d st.heap) x=some blk'→∃ y blk,look st.heap y=some blk∧blk'=blk.ren s d∧x=xG s d y∧(if x=d then β s else β x)=β y:=by
   intro x blk' hx
   rw[hlk]at hx
   by_cases hxd:x=d
   · rw[if_pos hxd]at hx
     cases hy:look st.heap s with
     | none=>rw[hy]at hx;cases hx
     | some b=>rw[hy]at hx;cases hx;exact⟨s,b,hy,rfl,by simp[xG,hxd],by simp[hxd]⟩
   · rw[if_neg hxd]at hx
     by_cases hxs:x=s
     · rw[if_pos hxs]at hx;cases hx
     · rw[if_neg hxs]at hx
       cases hy:look st.heap x with
       | none=>rw[hy]at hx;cases hx
       | some b=>rw[hy]at hx;cases hx;exact⟨x,b,hy,rfl,(JJ hxs).symm,by simp[hxd]⟩
  refine⟨by simp only[jG];exact r.lC,fun t v hv=>?_,fun x blk' hx=>?_,fun x b o hx hb=>?_,fun x x' b o o' hx hx' hb hb'=>?_,r.fB,r.jQ,r.oD,r.keep,r.room,r.size,r.os,r.tape,r.output,r.glob⟩
  · simp only[rP]at hv
    cases he:st.env[t]? with
    | none=>rw[he]at hv;cases hv
    | some u=>rw[he]at hv;cases hv;exact key (r.env t u he)
  · obtain⟨y,blk,g1,rfl,rfl,g4⟩:=from_ x blk' hx
    cases r.heap y blk g1 with
    | box cs b o C e fr k1 k2 k3 k4 k5 k6 =>
     refine .box _ b o C e fr (g4.trans k1) k2 (by rw[jG];exact k3) k4 (fun c hc=>?_) fun j c hj=>?_
     · obtain⟨i,hi⟩:=List.mem_iff_getElem?.1 hc
       rw[rP]at hi
       cases hx:cs[i]? with
       | none=>rw[hx]at hi;cases hi
       | some x=>rw[hx]at hi;cases hi;rw[Gz];exact k5 x (qLe hx)
     · rw[rP]at hj
       cases hx:cs[j]? with
       | none=>rw[hx]at hj;cases hj
       | some x=>rw[hx]at hj;cases hj;exact key (k6 j x hx)
    | gY a ks=>exact .gY a ks
    | log on ys=>exact .log on ys
    | arr a ks xs b o C e fr k1 k2 k3 k4 k5 k6=>exact .arr a ks xs b o C e fr (g4.trans k1) k2 k3 k4 k5 k6
    | tb t c0 c1 b C fr k1 k2 k3 k4 k5 k6 k7 k8=>exact .tb t _ _ b C fr (g4.trans k1) k2 k3 k4 (by rw[Gz];exact k5) (by rw[Gz];exact k6) (key k7) (key k8)
    | mp t es b o E k k1 k2 k3 k4=>exact .mp t es b o E k (g4.trans k1) k2 k3 k4
    | EH e=>exact .EH e
    | br e xs b C fr k1 k2 k3 k4 g5 g6=>exact .br e xs b C fr (g4.trans k1) k2 k3 k4 g5 g6
  · obtain⟨blk',hx⟩:=Option.isSome_iff_exists.1 hx
    obtain⟨y,blk,g1,_,g3,g4⟩:=from_ x blk' hx
    have hb:(if x=d then β s else β x)=some (b,o):=hb
    rw[g4]at hb
    obtain⟨o1,o2,o3⟩:=r.own y b o (by rw[g1];rfl) hb
    refine⟨o1,o2,o3.1,o3.2.imp id fun o3=>?_⟩
    have hys:y≠s:=by omega
    have:xG s d y=y:=JJ hys
    rw[g3,this];exact o3
  · obtain⟨akH,hx⟩:=Option.isSome_iff_exists.1 hx
    obtain⟨aff,hx'⟩:=Option.isSome_iff_exists.1 hx'
    obtain⟨y,b1,g1,_,g3,g4⟩:=from_ x akH hx
    obtain⟨y',b2,g1',_,g3',g4'⟩:=from_ x' aff hx'
    have hb:(if x=d then β s else β x)=some (b,o):=hb
    have hb':(if x'=d then β s else β x')=some (b,o'):=hb'
    rw[g4]at hb
    rw[g4']at hb'
    rw[g3,g3',r.inj y y' b o o' (by rw[g1];rfl) (by rw[g1'];rfl) hb hb']
theorem aJ.ZX (s d:Nat) (b:aJ):Like b (b.ren s d):=by
 cases b with
 | box cs=>simp[aJ.ren,Like,jG]
 | arr=>exact Like.refl _
 | log=>exact Like.refl _
 | tb=>exact rfl
 | mp=>exact Like.refl _
 | br=>exact Like.refl _
theorem QL {β:Nat→Option (Nat × Nat)} {hp:Heap} {s d:Nat} (hne:s≠d) (hd:look hp d=none) {b:Nat} (h:kN (fun x=>if x=d then β s else β x) (oz s d hp) b):kN β hp b:=by
 obtain⟨x,o,hx,hb⟩:=h
 rw[qm hne x hd]at hx
 by_cases hxd:x=d
 · rw[if_pos hxd]at hx
   simp only[hxd,if_true]at hb
   exact⟨s,o,by simpa using hx,hb⟩
 · rw[if_neg hxd]at hx
   simp only[if_neg hxd]at hb
   by_cases hxs:x=s
   · rw[if_pos hxs]at hx;cases hx
   · rw[if_neg hxs]at hx
     exact⟨x,o,by simpa using hx,hb⟩
theorem Inv.xH {cx:Cx} (i:Inv cx st a w) {s d:Nat} (hne:s≠d) (hs:s<ah) (hd:d<ah):Inv cx (st.xH s d) a w:=by
 have i1:=i.strike [d]
 have hn:look (st.strike [d]).heap d=none:=by rw[bU];simp
 unfold St.xH
 generalize st.strike [d]=st1 at i1 hn
 obtain⟨M,β,L,ds,r,e1,e2,e3,fx⟩:=i1
 refine⟨M,_,L,ds,r.rename hne hn hs,fun x hx=>?_,fun x hx blk' hb=>?_,e3,fx.less (fun p hp=>rfl) fun _ ho=>QL hne hn ho⟩
 · have:x≠d:=by omega
   simp only[if_neg this];exact e1 x hx
 · have h1:x≠d:=by omega
   have h2:x≠s:=by omega
   have hb':look (oz s d st1.heap) x=some blk':=hb
   rw[qm hne x hn,if_neg h1,if_neg h2]at hb'
   cases hy:look st1.heap x with
   | none=>rw[hy]at hb';cases hb'
   | some b =>
    rw[hy]at hb';cases hb'
    obtain⟨b0,g1,g2⟩:=e2 x hx b hy
    exact⟨b0,g1,g2.trans (aJ.ZX s d b)⟩
theorem Inv.jE {cx:Cx} (nv:Nat) (hs:List Nat) (sJ:nv≤ah):∀ (l:List Oper) {st:St},Inv cx st a w→Inv cx (Skm.jE nv hs l st) a w
 | [],st,i=>i
 | o::r,st,i=>by
  simp only[Skm.jE]
  split
  · rename_i d _ _
    split
    · rename_i s _ _ _ _
      cases hc:(Nat.ble nv s||(dR d hs&&!(s==d)))&&(Nat.blt d nv&&Nat.blt s 100000) with
      | false=>exact Inv.jE nv hs sJ r i
      | true =>
       simp only[qBa]at hc
       have h2:d<nv:=Nat.le_of_ble_eq_true hc.2.1
       have h1:s≠d:=by
        intro e
        rcases(by simpa only[Bool.or_eq_true] using hc.1:Nat.ble nv s=true∨(dR d hs&&!(s==d))=true) with h | h
        · exact absurd (Nat.le_of_ble_eq_true h) (Nat.not_le_of_lt (by rw[e];exact h2))
        · simp[e]at h
       have h3:s<100000:=Nat.le_of_ble_eq_true hc.2.2
       have ea:ah=100000:=rfl
       exact Inv.jE nv hs sJ r (i.xH h1 h3 (Nat.lt_of_lt_of_le h2 sJ))
    · exact Inv.jE nv hs sJ r i
  · exact Inv.jE nv hs sJ r i
theorem Inv.eF {cx:Cx} (hs:List Nat):∀ (l:List Oper) {st:St},Inv cx st a w→Inv cx (Skm.eF hs l st) a w
 | [],st,i=>i
 | o::r,st,i=>by
  simp only[Skm.eF]
  split
  · rename_i x _
    split
    · rename_i s _ _ _ _
      cases hc:dR x hs&&(Nat.blt s 5000&&Nat.blt x 5000) with
      | false=>exact Inv.eF hs r i
      | true =>
       simp only[qBa]at hc
       have h1:s<5000:=Nat.le_of_ble_eq_true hc.2.1
       have h2:x<5000:=Nat.le_of_ble_eq_true hc.2.2
       have k:∀ s y:Nat,s<5000→y<5000→s≠5000+y∧s<ah∧5000+y<ah:=fun s y h1 h2=>by
        have ea:ah=100000:=rfl
        omega
       obtain⟨k1,k2,k3⟩:=k s x h1 h2
       exact Inv.eF hs r (i.xH k1 k2 k3)
    · exact Inv.eF hs r i
  · split
    · rename_i d _
      split
      · cases hc:dR d hs&&Nat.blt d 5000 with
        | false=>exact Inv.eF hs r i
        | true =>
         simp only[qBa]at hc
         have h2:d<5000:=Nat.le_of_ble_eq_true hc.2
         have ea:ah=100000:=rfl
         have k:∀ y:Nat,y<5000→y≠7990∧y<ah∧7990<ah:=fun y h=>by
          have ea:ah=100000:=rfl
          omega
         obtain⟨k1,k2,k3⟩:=k d h2
         exact Inv.eF hs r (i.xH k1 k2 k3)
      · exact Inv.eF hs r i
    · exact Inv.eF hs r i
  · exact Inv.eF hs r i
theorem Inv.abA {cx : Cx} (i : Inv cx st a w) {d : Nat} {x : PV} {ss : List Nat} (hd : deep (look st.heap) (st.env.getD d .undef) = some (x,ss)) (hf : gU ss = true) :
    Inv cx { (st.strike ss) with env:=(st.strike ss).env.set d (.p x) } a w:=by
  by_cases hlt:d<st.env.length
  · obtain⟨M,β,L,ds,r,i1,i2,i3,fx⟩:=i
    have hv:st.env[d]?=some (st.env.getD d .undef):=by rw[qLb,qLd hlt];rfl
    obtain⟨g1,g2⟩:=Dh (fun s b h=>r.heap s b h) (fun s b h=>h) hd (r.env d _ hv)
    have r1:=r.ZQ.freeze [] ss hf g2
    rw[List.nil_append]at r1
    have r2:Rel _ _ _ (bD M β ss) β { (st.strike ss) with env:=(st.strike ss).env.set d (.p x) } a w :=
     ⟨by simpa using r1.lC,fun t v h=>by
       simp only at h
       rw[List.getElem?_set]at h
       split at h
       · rename_i he
         split at h
         · cases h
           subst he
           exact .p _ _ g1
         · cases h
       · exact r1.env t v h,r1.heap,r1.own,r1.inj,r1.fB,r1.jQ,r1.oD,r1.keep,r1.room,r1.size,r1.os,r1.tape,r1.output,r1.glob⟩
    refine⟨bD M β ss,β,L,ds,r.Vg r2,i1,i2.trans (wU st ss),i3,fx.step r r2⟩
  · have e:st.env.getD d .undef=.undef:=by simp[List.getD,List.getElem?_eq_none (by omega:st.env.length≤d)]
    rw[e]at hd
    simp[deep,FV,IJ]at hd
theorem Inv.freezes {cx:Cx} (ts:List Nat):∀ (l:List Oper) {st:St},Inv cx st a w→Inv cx (Skm.freezes ts l st) a w
 | [],st,i=>i
 | o::r,st,i=>by
  simp only[Skm.freezes]
  split
  · cases hm:Qn ts _ with
    | none=>exact Inv.freezes ts r i
    | some x =>
     simp only[]
     split
     · rename_i v ss hd
       cases hf:gU ss with
       | false=>exact Inv.freezes ts r i
       | true=>exact Inv.freezes ts r (i.abA hd hf)
     · exact Inv.freezes ts r i
  · exact Inv.freezes ts r i
theorem Inv.settle {cx:Cx} {F:Bz} (i:Inv cx st a w) (sJ:F.nvars≤ah) (l:List Oper):Inv cx (Skm.settle F l st) a w:=by
 unfold Skm.settle
 split
 · exact(i.jE _ _ sJ l).freezes _ l
 · exact((i.jE _ _ sJ l).eF _ l).freezes _ l
theorem Ce {live:List Nat}:∀ (l:List AV) (k i:Nat) (v:AV),(qO live k l)[i]?=some v→v=.undef∨l[i]?=some v
 | [],k,i,v,h=>by simp[qO]at h
 | u::r,k,0,v,h=>by
  simp only[qO,List.getElem?_cons_zero,qOa]at h
  cases hm:dR k live with
  | true=>rw[hm]at h;right;simpa using h
  | false=>rw[hm]at h;left;simpa using h.symm
 | u::r,k,i+1,v,h=>by
  simp only[qO,List.getElem?_cons_succ]at h
  simpa using Ce r (k+1) i v h
theorem vW {live:List Nat}:∀ (l:List AV) (k:Nat),(qO live k l).length=l.length
 | [],_=>rfl
 | u::r,k=>by simp[qO,vW r]
theorem Inv.forget {cx:Cx} (i:Inv cx st a w) (live sites:List Nat):Inv cx (st.forget live sites) a w:=by
 obtain⟨M,β,L,ds,r,e1,e2,e3,fx⟩:=i
 exact Inv.strike ⟨M,β,L,ds,r.Wv (vW _ _) (fun t v h=>Ce _ _ _ _ h),e1,e2,e3,fx⟩ _
theorem Inv.aB {cx:Cx} (i:Inv cx st a w) (F:Bz) (c:Code):Inv cx (Skm.aB F c st) a w:=by
 unfold Skm.aB
 split
 · exact i
 · split
   · exact i
   · exact i.forget _ _
theorem Inv.nS {cx : Cx} (i : Inv cx st a w) {α : Type} {b : Option aJ} (hb : ∀ on xs,b = some (.log on xs) → ∃ ys,look cx.hp0 ah = some (.log on ys)) {k : St → Option α} {x : α} (h : Skm.nS b st k = some x) : ∃ st',k st' = some x ∧ Inv cx st' a w ∧
    ∀ on xs,look st'.heap ah=some (.log on xs)→b=some (.log on xs):=by
  unfold Skm.nS at h
  split at h
  · rename_i on0 xs0 h0
    split at h
    · rename_i on xs
      refine⟨_,h,?_,fun on' xs' he=>?_⟩
      · obtain⟨ys,hy⟩:=hb on xs rfl
        obtain⟨M,β,L,ds,r,e1,e2,e3,fx⟩:=i
        have hlk:∀ s,look (put st.heap ah (.log on xs)) s=if s=ah then some (.log on xs) else look st.heap s:=fun s=>aZ _ _ _ _
        have hon:on=on0:=by
         obtain⟨b0,g1,g2⟩:=e2 ah (Nat.le_refl _) _ h0
         rw[hy]at g1;cases g1
         exact g2
        have key:∀ {v:AV} {c:Value},AR w M β (look st.heap) v c→AR w M β (look (put st.heap ah (.log on xs))) v c:=by
         intro v c hv
         refine hv.mono (fun b hb=>⟨hb,rfl⟩) fun s blk _ hs=>?_
         by_cases e:s=ah
         · subst e
           rw[h0]at hs;cases hs
           exact⟨.log on xs,by rw[hlk,if_pos rfl],hon.symm,rfl,fun _ _ _ _ h=>h⟩
         · exact⟨blk,by rw[hlk,if_neg e];exact hs,Like.refl _,rfl,fun _ _ _ _ h=>h⟩
        have live:∀ s,(look (put st.heap ah (.log on xs)) s).isSome=true→(look st.heap s).isSome=true:=by
         intro s hs
         rw[hlk]at hs
         by_cases e:s=ah
         · subst e;rw[h0];rfl
         · rw[if_neg e]at hs;exact hs
        refine⟨M,β,L,ds,⟨r.lC,fun t v hv=>key (r.env t v hv),fun s blk hs=>?_,fun s b o hs hb=>r.own s b o (live s hs) hb,fun s s' b o o' hs hs'=>r.inj s s' b o o' (live s hs) (live s' hs'),r.fB,r.jQ,r.oD,r.keep,r.room,r.size,r.os,r.tape,r.output,r.glob⟩,e1,fun s hs blk hb=>?_,e3,fx.less (fun p hp=>rfl) fun _ ⟨s,o,hs,hb⟩=>⟨s,o,live s hs,hb⟩⟩
        · have hs:look (put st.heap ah (.log on xs)) s=some blk:=hs
          rw[hlk]at hs
          by_cases e:s=ah
          · rw[if_pos e]at hs;cases hs;exact .log _ _
          · rw[if_neg e]at hs
            cases r.heap s blk hs with
            | box cs b o C e fr k1 k2 k3 k4 k5 k6=>exact .box cs b o C e fr k1 k2 k3 k4 k5 fun j c hj=>key (k6 j c hj)
            | gY a ks=>exact .gY a ks
            | log on ys=>exact .log on ys
            | arr a ks xs b o C e fr k1 k2 k3 k4 k5 k6=>exact .arr a ks xs b o C e fr k1 k2 k3 k4 k5 k6
            | tb t c0 c1 b C fr k1 k2 k3 k4 k5 k6 k7 k8=>exact .tb t _ _ b C fr k1 k2 k3 k4 k5 k6 (key k7) (key k8)
            | mp t es b o E k k1 k2 k3 k4=>exact .mp t es b o E k k1 k2 k3 k4
            | EH e=>exact .EH e
            | br e xs b C fr k1 k2 k3 k4 g5 g6=>exact .br e xs b C fr k1 k2 k3 k4 g5 g6
        · have hb:look (put st.heap ah (.log on xs)) s=some blk:=hb
          rw[hlk]at hb
          by_cases e:s=ah
          · rw[if_pos e]at hb;cases hb;subst e;exact⟨_,hy,rfl⟩
          · rw[if_neg e]at hb;exact e2 s hs blk hb
      · have he:look (put st.heap ah (.log on xs)) ah=_:=he
        rw[aZ,if_pos rfl]at he
        cases he;rfl
    · cases h
  · rename_i hno
    exact⟨st,h,i,fun on xs he=>absurd he (hno on xs)⟩
def Ex.ZY:Ex→Exit
 | .normal=>.normal
 | .exit id=>.exit id
 | .ret=>.ret
end
end Go.Skm
