import Derived.Test.YtpjaaamhnghloaaGreatDoorSkmA
set_option linter.all false
namespace Go.Skm
section
variable {c:Value}{v x:AV}{t:TypeId}{f n off:Nat}{cs:List AV}
theorem Nl:∀{cs:List AV},AV.Gf cs=true->∀c∈cs,c≠.undef/\(∀x,c≠.o7 x)/\(∀x,c≠.agg x)
 |[],_,c,g=>by simp at g
 |v::r,h,c,g=>by
  rcases List.mem_cons.1 g with rfl |g
  .cases c<;>simp[AV.Gf]at h ⊢
  .refine Nl (cs:=r) ?_ c g;cases v<;>simp[AV.Gf]at h<;>exact h
section
variable {P:Program}{T:Tab}{w:World}{M:Nat->Prop}{β:Nat->Option (Nat × Nat)}{h:Nat->Option aH}
theorem AR.cells{v:AV}{c:Value}(B:AR w M β h v c)(ok:v.ok=true):c.cells.size=v.cells.length /\
    ∀(j:Nat) (x:AV),v.cells[j]?=some x->AR w M β h x (c.cells.getD j Go.undef)/\x.leaf=true/\(c.cells.getD j Go.undef).oneCell'=true:=by
  have single:∀(v':AV) (z:Value),AR w M β h v' z->v'.cells=[v']->z.cells=#[z]->v'.leaf=true->z.oneCell'=true ->
      z.cells.size=v'.cells.length/\∀(j:Nat) (x:AV),v'.cells[j]?=some x->AR w M β h x (z.cells.getD j Go.undef)/\x.leaf=true/\(z.cells.getD j Go.undef).oneCell'=true:=by
    intro v' z K J I h4 h5;rw[J,I];refine⟨rfl,λj x g=>?_⟩;cases j with
    |zero=>simp at g;subst g;simpa using ⟨K,h4,h5⟩
    |succ j=>simp at g
  cases B with
  |undef c=>simp[AV.ok]at ok
  |p v c B=>
   cases B with
   |agg cs vs F G D=>
    simp only[AV.cells,Value.cells,qLm,List.getElem?_map];refine⟨F,λj x g=>?_⟩;cases r:cs[j]? with
    |none=>rw[r]at g;simp at g
    |some y=>rw[r]at g;simp at g;subst g;have q:=G y (qLe r);exact⟨.p _ _ (D j y r),q,(D j y r).one q⟩
   |_=>exact single _ _ (.p _ _ (by constructor<;>assumption)) rfl rfl rfl rfl
  |agg cs vs F G D=>
   simp only[AV.cells,Value.cells];refine⟨F,λj x g=>?_⟩;have H:=qLe g;have r:=Nl (by simpa[AV.ok] using ok) x H;have q:=G x H;have E:=D j x g;refine⟨E,q,?_⟩;generalize vs.getD j Go.undef=cj at E;cases E with
   |undef=>exact absurd rfl r.1
   |p v c B=>exact B.one q
   |agg=>exact absurd rfl (r.2.2 _)
   |o7=>exact absurd rfl (r.2.1 _)
   |_=>rfl
  |o7=>simp[AV.ok]at ok
  |_=>exact single _ _ (by constructor<;>assumption) rfl rfl rfl rfl
theorem uQ:∀{cs:List AV}{vs:List PV},DL cs=some vs->cs=vs.map .p
 |[],vs,h=>by simp[DL]at h;subst h;rfl
 |v::r,vs,h=>by
  cases v<;>simp only[DL]at h<;>first |cases h |skip
  split at h
  .rename_i ys g;cases h;simp[uQ g]
  .cases h
theorem AR.DN{cs:List AV}{vs:Array Value}(q:vs.size=cs.length)(r:∀c∈cs,c.leaf=true)(g:∀(i:Nat) (c:AV),cs[i]?=some c->AR w M β h c (vs.getD i Go.undef)) :
    AR w M β h (Skm.DN cs) (.agg vs):=by
  unfold Skm.DN;split
  .rename_i xs z;have e:=uQ z;subst e;refine .p _ _ (.agg xs vs (by simpa using q) (λc g=>by simpa[AV.leaf] using r (.p c) (by simpa using g)) λi c hi=>?_);have:=g i (.p c) (by simp[hi]);cases this;assumption
  .exact .agg cs vs q r g
theorem afm{c a b:AV}{x y z:Value}(r:AR w M β h c x)(p:AR w M β h a y)(g:AR w M β h b z) :
    aj P w M β h (Qa c a b) (do pure (if <-asBool x then y else z)):=by
  unfold Qa;split
  .rename_i q;rw[r.Dh];split
   .rename_i u v;rw[p.Dh,g.Dh];exact aj.ret (.bool _) (by cases q<;>simp[asBool])
   .refine aj.ite (λe=>aj.ret p ?_) (λe=>aj.ret g ?_)<;>simp[asBool,e]
  .exact aj.fail
theorem Ye{i:Nat}(q:AR w M β h x c):aj P w M β h (EJ x i) (Instr.extract c i):=by
 unfold EJ;split
 .rename_i vs;cases q with
  |o7 _ p r z=>
  split
  .rename_i v g;refine aj.ret (z i v g) ?_;have hi:i<p.size:=by rw[r];exact(qLa.1 g).1
   simp_all[Instr.extract,Sem.run_pure]
  .exact aj.fail
 .exact aj.fail
theorem IC:∀{cs:List PV},(∀c∈cs,c.leaf=true)->aA true (cs.map VH) (.agg cs)=true
 |[],_=>rfl
 |c::cs,h=>by have g:=IC (cs:=cs) λx p=>h x (by simp[p]);have q:=h c σ;simp only[aA,List.map_cons,bn,qBa]at g ⊢;refine⟨?_,g⟩;cases c<;>simp[VH,kindOk,PV.leaf]at q ⊢
theorem RZ(ok:bJ P T)(H:AR w M β h x c):aj P w M β h (zO T t x f) (Instr.fieldAt t c f):=by
 unfold zO;split
 .rename_i S r;have r:=ok.und r;split
  .rename_i q E;split
   .rename_i n R;obtain⟨i,hi,L⟩:=ok.size R;have place:∀(b o:Nat),(fieldPlace ⟨b,o,none⟩ q).run P w=.ok ⟨b,o+q.offset,none⟩ w:=by intro b o;simp only[fieldPlace,Sem.run_bind,fZ hi,qRa,L];rw[if_neg ω];simp only[Sem.run_pure,Addr.add];by_cases O:q.offset=0<;>simp[O]
    split
    .rename_i s B off;cases H with
     |ptrB s off cs b o G F=>
      refine aj.ret (c:=.pointer (some ⟨b,o+off+q.offset,none⟩)) ?_ ?_
      .rw[Nat.add_assoc];exact .ptrB s _ cs b o G F
      .simp[Instr.fieldAt,aW r,E,Instr.sureAddr,place]
     |ptrA s B off a ks xs b o G F N=>
      refine aj.ret (c:=.pointer (some ⟨b,o+B*ks.length+off+q.offset,none⟩)) ?_ ?_
      .rw[Nat.add_assoc];exact .ptrA s B _ a ks xs b o G F N
      .simp[Instr.fieldAt,aW r,E,Instr.sureAddr,place]
     |ptrT s off t c0 c1 b G F=>refine aj.ret (c:=.pointer (some ⟨b,off+q.offset,none⟩)) (.ptrT s _ t c0 c1 b G F) ?_;simp[Instr.fieldAt,aW r,E,Instr.sureAddr,place]
    .cases H with
     |pF _ _ _ _ b o g G F N h4=>
      rename_i off;refine aj.ret (c:=.pointer (some ⟨b,o+off+q.offset,none⟩)) ?_ ?_
      .rw[Nat.add_assoc];exact .pF _ _ _ _ b o g G F N h4
      .simp[Instr.fieldAt,aW r,E,Instr.sureAddr,place]
    .rename_i c;cases H with
     |p _ _ z=>
      cases z with
      |ref _ b o g K I J z Q=>
       split
       .rename_i O;refine aj.ret (c:=.pointer (some ⟨b,o+q.offset,none⟩)) ?_ ?_
        .rw[O];exact .p _ _ (.ref _ b o g K I J z Q)
        .simp[Instr.fieldAt,aW r,E,Instr.sureAddr,place]
       .refine aj.ret (c:=.pointer (some ⟨b,o+q.offset,none⟩)) ?_ ?_
        .exact .pF true [VH c] (.agg [c]) q.offset b o g K (IC I) (λj c D=>J j c D) (λj c D=>z j c D)
        .simp[Instr.fieldAt,aW r,E,Instr.sureAddr,place]
    .rename_i cs _;cases H with
     |p _ _ z=>
      cases z with
      |ref _ b o g K I J z _=>
       refine aj.ret (c:=.pointer (some ⟨b,o+q.offset,none⟩)) ?_ ?_
       .exact .pF true (cs.map VH) (.agg cs) q.offset b o g K (IC I) (λj c D=>J j c D) (λj c D=>z j c D)
       .simp[Instr.fieldAt,aW r,E,Instr.sureAddr,place]
    .exact aj.fail
   .exact aj.fail
  .exact aj.fail
 .exact aj.fail
theorem IE(ok:bJ P T)(z:oK T t=some n)(g:tZ T t n cs off=some v) :
    off+n<=cs.length/\((wz P t=true/\v=Skm.DN ((cs.drop off).take n))\/(wz P t=false/\n=1/\v=cs.getD off .undef)):=by
  unfold tZ at g;cases q:Nat.ble (off+n) cs.length with
  |false=>rw[q]at g;cases g
  |true=>
   rw[q]at g;simp only[qCt]at g;refine⟨Nat.le_of_ble_eq_true q,?_⟩;rw[ok.agg z]at g;cases r:wz P t with
   |true=>rw[r]at g;left;exact⟨rfl,by simpa using g.symm⟩
   |false=>
    rw[r]at g;right;cases p:Nat.beq n 1 with
    |false=>rw[p]at g;simp at g
    |true=>rw[p]at g;exact⟨rfl,Nat.eq_of_beq_eq_true p,by simpa using g.symm⟩
theorem Qo{vs:Array Value}(ok:bJ P T)(r:oK T t=some n)(E:tZ T t n cs off=some v)(z:vs.size=cs.length)
    (G:∀c∈cs,c.leaf=true)(D:∀(i:Nat) (c:AV),cs[i]?=some c->AR w M β h c (vs.getD i undef))(hd:∃d,P.underlying t=some d) :
    ∃c,AR w M β h v c/\(part t vs off).run P w=.ok c w:=by
  obtain⟨i,hi,p⟩:=ok.size r;obtain⟨d,hd⟩:=hd;obtain⟨H,g⟩:=IE ok r E;rcases g with⟨g,rfl⟩ |⟨g,rfl,rfl⟩
  .refine⟨.agg (vs.extract off (off+n)),AR.DN ?_ ?_ ?_,?_⟩
   .simp;omega
   .grind
   .intro j c B;have q:j<n:=θ
    rw[List.getElem?_take,if_pos q,List.getElem?_drop]at B;have:=D _ _ B;have e:(vs.extract off (off+n)).getD j undef=vs.getD (off+j) undef:=by simp only[qAb,Array.getElem?_extract];grind
    grind
   .simp[part,lg hd,g,fZ hi,p]
  .have F:off<cs.length:=ω
   refine⟨vs.getD off undef,D off _ (by simp[F]),?_⟩;simp only[part,Sem.run_bind,lg hd,g,qRa,Bool.false_eq_true,if_false,getD_some (by omega:off<vs.size),Sem.run_pure]
theorem bJ.acQ(ok:bJ P T)(h:oK T t=some n):∃d,P.underlying t=some d:=by
 unfold oK at h;cases g:aX T.types t with
 |none=>rw[g]at h;cases h
 |some i=>obtain⟨q,j,p,_,h4⟩:=ok.ti g;exact⟨q,p⟩
theorem acR(ok:bJ P T)(z:AR w M β h x c):aj P w M β h (Ls T t x f) (Instr.field t c f):=by
 unfold Ls;split
 .rename_i K B;have B:=ok.und B;split
  .rename_i L J;split
   .rename_i n cs r;cases z with
    |p _ _ z=>cases z with
    |agg _ vs g E G=>
    split
    .rename_i v D;obtain⟨c,I,H⟩:=Qo (w:=w) (M:=M) (β:=β) (h:=h) ok r D (by simpa using g) (λc F=>by
      obtain⟨y,q,rfl⟩:=List.mem_map.1 F;exact E y q) (λi c hi=>by
      rw[List.getElem?_map]at hi;cases q:cs[i]? with
      |none=>rw[q]at hi;simp at hi
      |some y=>rw[q]at hi;simp at hi;subst hi;exact .p _ _ (G i y q)) (ok.acQ r)
     exact aj.ret I (by simp[Instr.field,aW B,J,asAgg,H])
    .exact aj.fail
   .rename_i n cs r;cases z with
    |agg _ vs g E G=>
    split
    .rename_i v D;obtain⟨c,I,H⟩:=Qo (w:=w) (M:=M) (β:=β) (h:=h) ok r D g E G (ok.acQ r);exact aj.ret I (by simp[Instr.field,aW B,J,asAgg,H])
    .exact aj.fail
   .exact aj.fail
  .exact aj.fail
 .exact aj.fail
end
end
section
section
variable {P:Program}{T:Tab}{w:World}{M:Nat->Prop}{β:Nat->Option (Nat × Nat)}{h:Nat->Option aH}
theorem He{α β:Type}(g:α->Sem β)(p:α->β):∀(l:List α),(∀x∈l,(g x).run P w=.ok (p x) w)->(l.mapM g).run P w=.ok (l.map p) w
 |[],_=>σ
 |x::r,hx=>by simp only[List.mapM_cons,Sem.run_bind,hx x σ,qRa,He g p r (λy q=>hx y (by simp[q])),Sem.run_pure,List.map_cons]
theorem afn{α β:Type}(g:α->Sem β)(p:α->β)(l:Array α)(q:∀x∈l.toList,(g x).run P w=.ok (p x) w):(l.mapM g).run P w=.ok (l.map p) w:=by rw[Array.mapM_eq_mapM_toList,Sem.run_map,He g p l.toList q];simp only[qRa];congr 1;grind
def V4(w:World)(M:Nat->Prop)(β:Nat->Option (Nat × Nat))(h:Nat->Option aH)(cs:List AV)(vs:Array Value):Prop:=
 vs.size=cs.length/\(∀c∈cs,c.leaf=true)/\∀(i:Nat) (c:AV),cs[i]?=some c->AR w M β h c (vs.getD i undef)
theorem foldl_set(vs:List Value)(off:Nat):∀(start:Nat) (acc:Array Value),off+start+vs.length<=acc.size ->
    ((vs.zipIdx start).foldl (λcs (p:Value × Nat)=>cs.setIfInBounds (off+p.2) p.1) acc).size=acc.size /\
    ∀i,((vs.zipIdx start).foldl (λcs (p:Value × Nat)=>cs.setIfInBounds (off+p.2) p.1) acc).getD i undef =
     if off+start<=i/\i<off+start+vs.length then(vs.toArray).getD (i-off-start) undef else acc.getD i undef:=by
  induction vs with
  |nil=>intro start acc _;refine⟨σ,λi=>?_⟩;rw[if_neg (by simp only[List.length_nil];omega)];simp
  |cons v r z=>
   intro start acc g;simp only[qLl]at g;simp only[List.zipIdx_cons,List.foldl_cons];obtain⟨D,B⟩:=z (start+1) (acc.setIfInBounds (off+start) v) (by simp;omega);refine⟨by rw[D];simp,λi=>?_⟩;rw[B i];by_cases hi:off+start=i
   .subst hi;rw[if_neg ω,if_pos σ];have:off+start<acc.size:=ω
    simp[this]
   .by_cases q:off+(start+1)<=i/\i<off+(start+1)+r.length
    .rw[if_pos q,if_pos (by simp;omega)];have e:i-off-start=(i-off-(start+1))+1:=ω
     rw[e];simp
    .rw[if_neg q,if_neg (by simp;omega)];simp_all
theorem xk{β:Type}(cs:List β)(off:Nat)(vs:List β)(g:off+vs.length<=cs.length)(i:Nat) :
    (patch cs off vs)[i]?=if off<=i/\i<off+vs.length then vs[i-off]? else cs[i]?:=by
  unfold patch;by_cases p:i<off
  .grind
  .grind
theorem oQ{β:Type}(cs:List β)(off:Nat)(vs:List β)(g:off+vs.length<=cs.length):(patch cs off vs).length=cs.length:=by grind[patch]
theorem Qp{place:Nat->Option (Nat × Nat)}:∀(parts:List (Nat × AV)) (F:List (Nat × Value)) (cs:List AV) (vs:Array Value) (g:List AV),
    V4 w M β h cs vs->parts.length=F.length->(∀(i:Nat) (p:Nat × AV) (q:Nat × Value),parts[i]?=some p->F[i]?=some q->p.1=q.1/\AR w M β h p.2 q.2) ->
    G9 place cs parts=some g->∃B,Instr.fill place vs F=some B/\V4 w M β h g B
  |[],F,cs,vs,g,hc,hn,_,hf=>by
   have:F=[]:=by simpa using hn.symm
   subst this;simp[G9]at hf;subst hf;exact⟨vs,rfl,hc⟩
  |(i,v)::r,[],cs,vs,g,hc,hn,_,hf=>by simp at hn
  |(i,v)::r,(j,c)::cr,cs,vs,g,hc,hn,hp,hf=>by
   have hp0:=hp 0 (i,v) (j,c) σ σ;simp only at hp0;obtain⟨rfl,R⟩:=hp0;simp only[G9]at hf;cases D:place i with
   |none=>rw[D]at hf;cases hf
   |some p=>
    obtain⟨off,size⟩:=p;rw[D]at hf;simp only at hf;cases G:(v.cells.length==size&&Nat.ble (off+size) cs.length&&v.ok)with
    |false=>rw[G]at hf;cases hf
    |true=>
     rw[G]at hf;simp only[qCt]at hf;simp only[qBa,beq_iff_eq]at G;obtain⟨⟨S,E⟩,J⟩:=G;have E:=Nat.le_of_ble_eq_true E;obtain⟨W,K⟩:=R.cells J;obtain⟨c1,c2,Z⟩:=hc;obtain⟨Y,X⟩:=foldl_set c.cells.toList off 0 vs (by simp;omega);have z:off+v.cells.length<=cs.length:=ω
     have I:V4 w M β h (patch cs off v.cells) ((c.cells.toList.zipIdx 0).foldl (λcs (L:Value × Nat)=>cs.setIfInBounds (off+L.2) L.1) vs):=by
      refine⟨by rw[Y,oQ _ _ _ z];exact c1,?_,?_⟩
      .intro x Q;obtain⟨i,hi⟩:=List.mem_iff_getElem?.1 Q;rw[xk _ _ _ z]at hi;split at hi
       .exact(K _ x hi).2.1
       .exact c2 x (qLe hi)
      .intro i x hi;rw[xk _ _ _ z]at hi;rw[X i];simp only[Nat.add_zero,Array.length_toList,Nat.sub_zero,Array.toArray_toList]at *;rw[W];split at hi
       .rename_i H;rw[if_pos H];exact(K _ x hi).1
       .rename_i H;rw[if_neg H];exact Z i x hi
     obtain⟨B,O,N⟩:=Qp r cr (patch cs off v.cells) _ g I (by simpa using hn) (λi p q V U=>hp (i+1) p q (by simpa using V) (by simpa using U)) hf;refine⟨B,?_,N⟩;rw[<-O];simp only[Instr.fill,D];rw[if_neg (by simp;omega)];rw[<-Array.foldl_toList];simp[Array.toList_zipIdx]
theorem vH(ok:bJ P T):∀(B:List Field) (i:Nat) (p:Nat × Nat),((gQ T B)[i]?).bind id=some p ->
    ∃f j,B[i]?=some f/\P.info? f.type=some j/\p=(f.offset,j.size)
  |[],i,p,h=>by simp[gQ]at h
  |f::r,0,p,h=>by simp[gQ]at h;obtain⟨n,z,q⟩:=h;obtain⟨j,g,h4⟩:=ok.size z;exact⟨f,j,σ,g,by rw[<-q,h4]⟩
  |f::r,i+1,p,h=>by simp[gQ]at h;obtain⟨D,j,z,q,g⟩:=vH ok r i p (by simpa using h);exact⟨D,j,by simpa using z,q,g⟩
end
end
section
variable {t:TypeId}{v:Value}
section
variable {P:Program}{T:Tab}{w:World}{M:Nat->Prop}{β:Nat->Option (Nat × Nat)}{h:Nat->Option aH}
def LJ(w:World)(M:Nat->Prop)(β:Nat->Option (Nat × Nat))(h:Nat->Option aH)(ps:List (Nat × AV))(cs:List (Nat × Value)):Prop:=
 ps.length=cs.length/\∀(i:Nat) (p:Nat × AV) (q:Nat × Value),ps[i]?=some p->cs[i]?=some q->p.1=q.1/\AR w M β h p.2 q.2
theorem mM{i:TypeInfo}(p:P.info? t=some i)(g:i.zero=some v):(zeroValue t).run P w=.ok v w:=by simp[zeroValue,pO p,g]
theorem Qr{q:List PV}(z:ofValue v=some (.agg q)):V4 w M β h (q.map .p) v.cells:=by
 have:=yC (w:=w) (M:=M) z;cases this with
 |agg _ vs B D E=>
  refine⟨by simpa[Value.cells] using B,λc r=>?_,λi c hi=>?_⟩
  .obtain⟨y,g,rfl⟩:=List.mem_map.1 r;exact D y g
  .rw[List.getElem?_map]at hi;cases g:q[i]? with
   |none=>rw[g]at hi;simp at hi
   |some y=>rw[g]at hi;simp at hi;subst hi;exact .p _ _ (E i y g)
theorem acS(ok:bJ P T){ps:List (Nat × AV)}{cs:Array (Nat × Value)}(hp:LJ w M β h ps cs.toList) :
    aj P w M β h (Lp T t ps) (Instr.build t cs):=by
  unfold Lp;split
  .rename_i Z g Q D;obtain⟨i,v,X,W,V⟩:=ok.zero Q;have D:=ok.und D;refine aj.chk λI=>?_;split
   .rename_i E H;have hpl:∀(n:Nat) (p:Nat × Nat),((gQ T g.toList)[n]?).bind id=some p->(g.map λf=>(f.offset,((P.info? f.type).map (·.size)).getD 0))[n]?=some p:=by intro n p hp;obtain⟨f,j,K,J,g3⟩:=vH ok g.toList n p hp;grind
    have U:∀(parts:List (Nat × AV)) (x:List AV) (y:List AV),G9 (λi=>((gQ T g.toList)[i]?).bind id) x parts=some y ->
        G9 (λn=>(g.map λf=>(f.offset,((P.info? f.type).map (·.size)).getD 0))[n]?) x parts=some y:=by
      intro parts;induction parts with
      |nil=>intro x y B;simpa[G9] using B
      |cons p r Y=>intro x y B;obtain⟨n,v⟩:=p;simp only[G9]at B ⊢;grind
    obtain⟨N,O,z⟩:=Qp ps cs.toList _ _ E (Qr V) hp.1 hp.2 (U _ _ _ H);refine aj.ret (AR.DN z.1 z.2.1 z.2.2) ?_;have R:∀f∈g.toList,(do pure (f.offset,<-sizeOf f.type):Sem (Nat × Nat)).run P w=.ok (f.offset,((P.info? f.type).map (·.size)).getD 0) w:=by
     intro f H;obtain⟨n,L⟩:=List.mem_iff_getElem?.1 H;have S:∃q,((gQ T g.toList)[n]?).bind id=some q:=by
      have G:∀(l:List Field),(gQ T l).length=l.length:=by
       intro l;induction l with
       |nil=>rfl
       |cons x r Y=>simp[gQ,Y]
      have F:n<(gQ T g.toList).length:=by rw[G];exact(qLa.1 L).1
      have:=(List.all_eq_true.1 I) _ (List.getElem_mem F);rw[qLd F];exact Option.isSome_iff_exists.1 this
     obtain⟨q,S⟩:=S;obtain⟨f',j,K,J,g3⟩:=vH ok g.toList n q S;rw[L]at K;cases K;simp[fZ J,J]
    simp only[Instr.build,Sem.run_bind,mM X W,aW D,qRa,afn _ _ g R,O,Sem.run_pure]
   .exact aj.fail
  .rename_i Z len e Q D;obtain⟨i,v,X,W,V⟩:=ok.zero Q;have D:=ok.und D;split
   .rename_i n L;obtain⟨j,K,J⟩:=ok.size L;split
    .rename_i E H;obtain⟨N,O,z⟩:=Qp ps cs.toList _ _ E (Qr V) hp.1 hp.2 H;refine aj.ret (AR.DN z.1 z.2.1 z.2.2) ?_;simp[Instr.build,mM X W,aW D,fZ K,J,O]
    .exact aj.fail
   .exact aj.fail
  .exact aj.fail
theorem addr_add(b o n:Nat):(⟨b,o,none⟩:Addr).add n=⟨b,o+n,none⟩:=by simp[Addr.add]
theorem yD{f:Nat->AV}{i:Int}{sem:Sem Value}(g:∀j:Nat,i=(j:Int)->aj P w M β h (.ret {val:=f j}) sem):∀m j,aj P w M β h (VK f i m j) sem
 |0,_=>aj.fail
 |m+1,j=>aj.ite (λh=>g j (by simpa using h)) λ_=>yD g m (j+1)
theorem Si(ok:bJ P T){x i:AV}{c d:Value}(F:AR w M β h x c)(hi:AR w M β h i d):aj P w M β h (zQ T t x i) (Instr.indexAt t c d):=by
 unfold zQ;split
 .rename_i k n;rw[hi.BI];split
  .rename_i e G;have G:=ok.und G;split
   .exact aj.fail
   .rename_i m Q;obtain⟨j,N,L⟩:=ok.size Q;have U:∀(b o len cap:Nat),0<=n->n<(len:Int)->(Instr.indexAt t (.slice (some ⟨b,o,none⟩) len cap) (.int k n)).run P w=.ok (.pointer (some ⟨b,o+n.toNat*m,none⟩)) w:=by intro b o len cap X W;simp[Instr.indexAt,asIntOf,aW G,X,W,fZ N,L,addr_add]
    split
    .rename_i s z off len;refine aj.chk λD=>aj.chk λg=>?_;simp only[beq_iff_eq]at D;subst D;simp only[qBa,qDa]at g;cases F with
     |slice s off len a ks xs b o cap q1 E B I S=>refine aj.ret (c:=.pointer (some ⟨b,o+off*ks.length+n.toNat*ks.length,none⟩)) ?_ (U _ _ _ _ g.1 g.2);have:=AR.ptrA (w:=w) (M:=M) (β:=β) (h:=h) s (off+n.toNat) 0 a ks xs b o q1 ω B;rw[Nat.add_mul]at this;simpa[Nat.add_assoc] using this
     |sliceE=>omega
    .rename_i s off len;refine aj.chk λD=>aj.chk λg=>?_;simp only[beq_iff_eq]at D;subst D;simp only[qBa,qDa]at g;cases F with
     |bslice s off len cs b o cap q1 E B I=>refine aj.ret (c:=.pointer (some ⟨b,o+off+n.toNat*1,none⟩)) ?_ (U _ _ _ _ g.1 g.2);have:=AR.ptrB (w:=w) (M:=M) (β:=β) (h:=h) s (off+n.toNat) cs b o q1 B;simpa[Nat.add_assoc] using this
     |bsliceE=>omega
    .rename_i a ks xs;refine aj.chk λD=>aj.chk λg=>?_;simp only[beq_iff_eq]at D;subst D;simp only[qBa,qDa]at g;cases F with
     |p _ _ F=>
     cases F with
     |list _ _ _ b o cap f q1 E B I S=>
      have J:n.toNat<xs.length:=ω
      have r:xs[n.toNat]?=some (xs.getD n.toNat .nil):=by simp[J]
      refine aj.ret (c:=.pointer (some ⟨b,o+n.toNat*ks.length,none⟩)) ?_ (U _ _ _ _ g.1 g.2);exact .pF a ks _ 0 b (o+n.toNat*ks.length) (f n.toNat) q1 (S _ (qLe r)) (λj c K=>B _ _ j c r K) (λj c K=>I _ _ j c r K)
     |iM=>simp at g;omega
    .rename_i a ks xs;refine aj.chk λD=>aj.chk λg=>?_;simp only[beq_iff_eq]at D;subst D;simp only[qBa,qDa]at g;cases F with
     |p _ _ F=>
     cases F with
     |full _ _ _ b o f q1 B I S=>
      have J:n.toNat<xs.length:=ω
      have r:xs[n.toNat]?=some (xs.getD n.toNat .nil):=by simp[J]
      refine aj.ret (c:=.pointer (some ⟨b,o+n.toNat*ks.length,none⟩)) ?_ (U _ _ _ _ g.1 g.2);exact .pF a ks _ 0 b (o+n.toNat*ks.length) (f n.toNat) q1 (S _ (qLe r)) (λj c K=>B _ _ j c r K) (λj c K=>I _ _ j c r K)
     |JO=>simp at g;omega
    .exact aj.fail
  .rename_i len e G;have G:=ok.und G;split
   .rename_i s H off m Q;obtain⟨j,N,L⟩:=ok.size Q;refine aj.chk λg=>?_;simp only[qBa,qDa]at g;cases F with
    |ptrB _ _ cs b o q1 E=>
     have one:∀q:Nat,n=(q:Int)->aj P w M β h (.ret {val:=.ptr s 0 (off+q*m)}) (Instr.indexAt t (.pointer (some ⟨b,o+off,none⟩)) (.int k n)):=by
      intro q O;subst O;refine aj.ret (c:=.pointer (some ⟨b,o+off+q*m,none⟩)) ?_ ?_
      .rw[Nat.add_assoc];exact .ptrB s _ cs b o q1 E
      .simp[Instr.indexAt,asIntOf,aW G,g,Instr.sureAddr,fZ N,L,addr_add];intro R;omega
     cases Nat.ble len 8 with
     |true=>exact yD one _ _
     |false=>exact one n.toNat ω
    |ptrA _ _ _ a ks xs b o q1 E B=>
     have one:∀q:Nat,n=(q:Int)->aj P w M β h (.ret {val:=.ptr s H (off+q*m)}) (Instr.indexAt t (.pointer (some ⟨b,o+H*ks.length+off,none⟩)) (.int k n)):=by
      intro q O;subst O;refine aj.ret (c:=.pointer (some ⟨b,o+H*ks.length+off+q*m,none⟩)) ?_ ?_
      .rw[Nat.add_assoc];exact .ptrA s H _ a ks xs b o q1 E B
      .simp[Instr.indexAt,asIntOf,aW G,g,Instr.sureAddr,fZ N,L,addr_add];intro R;omega
     cases Nat.ble len 8 with
     |true=>exact yD one _ _
     |false=>exact one n.toNat ω
    |ptrT _ _ V c0 c1 b q1 E=>
     have one:∀q:Nat,n=(q:Int)->aj P w M β h (.ret {val:=.ptr s 0 (off+q*m)}) (Instr.indexAt t (.pointer (some ⟨b,off,none⟩)) (.int k n)):=by
      intro q O;subst O;refine aj.ret (c:=.pointer (some ⟨b,off+q*m,none⟩)) ?_ ?_
      .exact .ptrT s _ V c0 c1 b q1 E
      .simp[Instr.indexAt,asIntOf,aW G,g,Instr.sureAddr,fZ N,L,addr_add];intro R;omega
     cases Nat.ble len 8 with
     |true=>exact yD one _ _
     |false=>exact one n.toNat ω
   .rename_i a ks y off m Q;obtain⟨j,N,L⟩:=ok.size Q;refine aj.chk λg=>?_;simp only[qBa,qDa]at g;cases F with
    |pF _ _ _ _ b o f q1 E B I=>
     refine aj.ret (c:=.pointer (some ⟨b,o+off+n.toNat*m,none⟩)) ?_ ?_
     .rw[Nat.add_assoc];exact .pF a ks y _ b o f q1 E B I
     .simp[Instr.indexAt,asIntOf,aW G,g,Instr.sureAddr,fZ N,L,addr_add]
   .exact aj.fail
  .exact aj.fail
 .exact aj.fail
end
end
section
variable {c:Value}{b cap l len o u:Nat}{hi lo:Option AV}{chi clo:Option Value}{xs:List PV}{a:Bool}{ks:List Kd}{f:Nat -> Nat -> Value}
section
variable {P:Program}{T:Tab}{w:World}{M:Nat->Prop}{β:Nat->Option (Nat × Nat)}{h:Nat->Option aH}
def V5(w:World)(M:Nat->Prop)(β:Nat->Option (Nat × Nat))(h:Nat->Option aH):Option AV->Option Value->Prop
 |none,none=>True
 |some v,some c=>AR w M β h v c
 |_,_=>False
theorem sW{d:Int}{v:AV}{n:Int}(p:AR w M β h v c)(g:bound d (some v)=some n):∃k,c=.int k n:=by
 unfold bound at g;split at g
 .cases ‹some v=none›
 .rename_i k m e;cases e;cases g;exact⟨k,p.BI⟩
 .cases g
theorem Qs(b:Bool){l u:Int}(g:V5 w M β h lo clo)(q:V5 w M β h hi chi)
    (p:bound 0 lo=some l)(r:bound len hi=some u)(q1:0<=l)(z:l<=u)(E:u<=(len:Int))(D:len<=cap) :
    (Instr.sliceBounds b len cap clo chi none).run P w=.ok (l.toNat,u.toNat,cap) w:=by
  cases hi with
  |none=>
   cases chi with
   |some c=>exact q.elim
   |none=>
    simp[bound]at r;subst r;cases lo with
    |none=>
     cases clo with
     |some c=>exact g.elim
     |none=>simp[bound]at p;subst p;simp[Instr.sliceBounds]
    |some v=>
     cases clo with
     |none=>exact g.elim
     |some c=>obtain⟨k,rfl⟩:=sW g p;simp only[Instr.sliceBounds,Sem.run_bind,Sem.run_pure,qRa,run_sliceBound w k l len _ q1 ω];simp
  |some v=>
   cases chi with
   |none=>exact q.elim
   |some c=>
    obtain⟨k,rfl⟩:=sW q r;cases lo with
    |none=>
     cases clo with
     |some c=>exact g.elim
     |none=>simp[bound]at p;subst p;simp only[Instr.sliceBounds,Sem.run_bind,Sem.run_pure,qRa,run_sliceBound w k u cap _ z ω];simp
    |some v=>
     cases clo with
     |none=>exact g.elim
     |some c=>obtain⟨B,rfl⟩:=sW g p;simp only[Instr.sliceBounds,Sem.run_bind,Sem.run_pure,qRa,run_sliceBound w k u cap _ ω ω,run_sliceBound w B l u.toNat _ q1 ω]
theorem Yf{r:AV}{g:Value}{l u m:Int}(p:V5 w M β h lo clo)(B:V5 w M β h hi chi)(G:AR w M β h r g)
    (q:bound 0 lo=some l)(H:bound len hi=some u)(F:hi.isSome=true)(e3:bound len (some r)=some m)(q1:0<=l)(D:l<=u)(K:u<=m)(J:m<=(len:Int))(I:len<=cap) :
    (Instr.sliceBounds true len cap clo chi (some g)).run P w=.ok (l.toNat,u.toNat,m.toNat) w:=by
  obtain⟨k,rfl⟩:=sW G e3;cases hi with
  |none=>cases F
  |some v=>
   cases chi with
   |none=>exact B.elim
   |some c=>
    obtain⟨z,rfl⟩:=sW B H;cases lo with
    |none=>
     cases clo with
     |some c=>exact p.elim
     |none=>simp[bound]at q;subst q;simp only[Instr.sliceBounds,Sem.run_bind,Sem.run_pure,qRa,run_sliceBound w k m cap _ ω ω,run_sliceBound w z u m.toNat _ D ω];simp
    |some v=>
     cases clo with
     |none=>exact p.elim
     |some c=>obtain⟨E,rfl⟩:=sW p q;simp only[Instr.sliceBounds,Sem.run_bind,Sem.run_pure,qRa,run_sliceBound w k m cap _ ω ω,run_sliceBound w z u m.toNat _ ω ω,run_sliceBound w E l u.toNat _ q1 ω]
theorem Qu{_a:Bool}{_ks:List Kd}(p:l<=u)(g:u<=xs.length):((xs.drop l).take (u-l)).length=u-l:=by simp;omega
theorem wJ{n i:Nat}{x:PV}(h:((xs.drop l).take n)[i]?=some x):xs[l+i]?=some x:=by
 rw[List.getElem?_take]at h;split at h
 .rwa[List.getElem?_drop]at h
 .cases h
theorem VR.sub{_cap cap':Nat}(F:M b)
    (E:∀(i:Nat) (x:PV) (j:Nat) (c:PV),xs[i]?=some x->x.cells[j]?=some c->w.cell? ⟨b,o+i*ks.length+j,none⟩=some (f i j))
    (B:∀(i:Nat) (x:PV) (j:Nat) (c:PV),xs[i]?=some x->x.cells[j]?=some c->VR w M c (f i j))(D:∀x∈xs,aA a ks x=true)
    (z:l<=u)(r:u<=xs.length)(p:u-l<=cap'):VR w M (.list a ks ((xs.drop l).take (u-l))) (.slice (some ⟨b,o+l*ks.length,none⟩) (u-l) cap'):=by
  have:=VR.list (w:=w) (M:=M) a ks ((xs.drop l).take (u-l)) b (o+l*ks.length) cap' (λi j=>f (l+i) j) F (by rw[Qu (_a:=a) (_ks:=ks) z r];exact p)
   (λi x j c g q=>by have:=E (l+i) x j c (wJ g) q;rw[Nat.add_mul]at this;rw[<-this];congr 2;omega)
   (λi x j c g q=>B (l+i) x j c (wJ g) q) (λx g=>D x (List.mem_of_mem_drop (List.mem_of_mem_take g)))
  rwa[Qu (_a:=a) (_ks:=ks) z r]at this
theorem VR.aq0(B:M b)
    (z:∀(i:Nat) (x:PV) (j:Nat) (c:PV),xs[i]?=some x->x.cells[j]?=some c->w.cell? ⟨b,o+i*ks.length+j,none⟩=some (f i j))
    (q:∀(i:Nat) (x:PV) (j:Nat) (c:PV),xs[i]?=some x->x.cells[j]?=some c->VR w M c (f i j))(r:∀x∈xs,aA a ks x=true)
    (E:l<=u)(D:u<=xs.length):VR w M (.full a ks ((xs.drop l).take (u-l))) (.slice (some ⟨b,o+l*ks.length,none⟩) (u-l) (u-l)):=by
  have:=VR.full (w:=w) (M:=M) a ks ((xs.drop l).take (u-l)) b (o+l*ks.length) (λi j=>f (l+i) j) B
   (λi x j c g p=>by have:=z (l+i) x j c (wJ g) p;rw[Nat.add_mul]at this;rw[<-this];congr 2;omega)
   (λi x j c g p=>q (l+i) x j c (wJ g) p) (λx g=>r x (List.mem_of_mem_drop (List.mem_of_mem_take g)))
  rwa[Qu (_a:=a) (_ks:=ks) E D]at this
theorem acT(ok:bJ P T){t:TypeId}{x:AV}{S:Option AV}{r:Option Value}(O:AR w M β h x c)(W:V5 w M β h lo clo)(X:V5 w M β h hi chi)
    (Q:V5 w M β h S r)(hmh:S.isSome=true->hi.isSome=true):aj P w M β h (LC T t x lo hi S) (Instr.sliceAt t c clo chi r):=by
  unfold LC;split
  .rename_i V;have V:=ok.und V;split
   .rename_i s;rw[O.Um];have:r=none:=by cases r with |none=>rfl |some v=>exact Q.elim
    subst this;split
    .rename_i l u E D;refine aj.chk λB=>aj.ret (.str _) ?_;simp only[qBa,qDa]at B;have:=Qs (P:=P) false (len:=s.size) (cap:=s.size) W X E D B.1 B.2.1 B.2.2 (qNr _);simp[Instr.sliceAt,Instr.slice,aW V,this]
    .exact aj.fail
   .exact aj.fail
  .rename_i e V;have V:=ok.und V;split
   .exact aj.fail
   .rename_i n hn;obtain⟨j,g1,g2⟩:=ok.size hn
    have Y:∀(base:Option Addr) (len cap l u m:Nat),(Instr.sliceBounds true len cap clo chi r).run P w=.ok (l,u,m) w ->
        (Instr.sliceAt t (.slice base len cap) clo chi r).run P w=.ok (.slice (if m=l then base else base.map (·.add (l*n))) (u-l) (m-l)) w:=by
      intro base len cap l u m B;simp[Instr.sliceAt,Instr.slice,aW V,B,fZ g1,g2]
    have F:∀(len cap:Nat) (l u m:Int),bound 0 lo=some l->bound len hi=some u->bound len S=some m->0<=l->l<=u->u<=m->m<=(len:Int)->len<=cap ->
        ∃g:Nat,(Instr.sliceBounds true len cap clo chi r).run P w=.ok (l.toNat,u.toNat,g) w/\((S=none/\g=cap)\/(S.isSome=true/\g=m.toNat)):=by
      intro len cap l u m E D e3 q1 L N K q5;cases S with
      |none=>
       have:r=none:=by cases r with |none=>rfl |some v=>exact Q.elim
       subst this;simp[bound]at e3;exact⟨cap,Qs true W X E D q1 L ω q5,.inl ⟨rfl,rfl⟩⟩
      |some v=>
       cases r with
       |none=>exact Q.elim
       |some c=>exact⟨m.toNat,Yf W X Q E D (hmh rfl) e3 q1 L N K q5,.inr ⟨rfl,rfl⟩⟩
    split
    .rename_i s z off len;split
     .rename_i l u m E D e3;refine aj.chk λU=>aj.chk λB=>?_;simp only[beq_iff_eq]at U;subst U;simp only[qBa,qDa]at B;obtain⟨q1,L,N,K⟩:=B;cases O with
      |slice _ _ _ a ks xs b o cap J p2 p3 Z p5=>
       obtain⟨g,H,G⟩:=F len cap l u m E D e3 q1 L N K Z;have I:u.toNat<=g/\g<=cap:=by rcases G with⟨_,rfl⟩ |⟨_,rfl⟩<;>omega
       have R:(u-l).toNat=u.toNat-l.toNat:=ω
       rw[R];refine aj.ret ?_ (Y _ _ _ _ _ _ H);by_cases q:g=l.toNat
       .rw[if_pos q,show u.toNat-l.toNat=0 from ω,show g-l.toNat=0 from ω];exact .sliceE s _ a ks xs _ J ω
       .rw[if_neg q];simp only[Option.map_some,addr_add];have:=AR.slice (w:=w) (M:=M) (β:=β) (h:=h) s (off+l.toNat) (u.toNat-l.toNat) a ks xs b o (g-l.toNat) J ω p3 ω (p5.mono (by refine Nat.add_le_add_left (Nat.mul_le_mul_right _ ?_) _;omega));rw[Nat.add_mul,<-Nat.add_assoc]at this;exact this
      |sliceE _ _ a ks xs base J p2=>
       obtain⟨g,H,G⟩:=F 0 0 l u m E D e3 q1 L N K (qNr _);have I:u.toNat<=g/\g<=0:=by rcases G with⟨_,rfl⟩ |⟨_,rfl⟩<;>omega
       have R:(u-l).toNat=0:=ω
       rw[R];have e5:g=l.toNat:=ω
       refine aj.ret (AR.sliceE s (off+l.toNat) a ks xs base J ω) ?_;have:=Y base 0 0 _ _ _ H;rw[if_pos e5,show u.toNat-l.toNat=0 from ω,show g-l.toNat=0 from ω]at this;exact this
     .exact aj.fail
    .rename_i s off len;split
     .rename_i l u m E D e3;refine aj.chk λU=>aj.chk λB=>?_;simp only[beq_iff_eq]at U;subst U;simp only[qBa,qDa]at B;obtain⟨q1,L,N,K⟩:=B;cases O with
      |bslice _ _ _ cs b o cap J p2 p3 Z=>
       obtain⟨g,H,G⟩:=F len cap l u m E D e3 q1 L N K Z;have I:u.toNat<=g/\g<=cap:=by rcases G with⟨_,rfl⟩ |⟨_,rfl⟩<;>omega
       have R:(u-l).toNat=u.toNat-l.toNat:=ω
       rw[R];refine aj.ret ?_ (Y _ _ _ _ _ _ H);by_cases q:g=l.toNat
       .rw[if_pos q,show u.toNat-l.toNat=0 from ω,show g-l.toNat=0 from ω];exact .bsliceE s _ cs _ J ω
       .rw[if_neg q];simp only[Option.map_some,addr_add,Nat.mul_one];have:=AR.bslice (w:=w) (M:=M) (β:=β) (h:=h) s (off+l.toNat) (u.toNat-l.toNat) cs b o (g-l.toNat) J ω p3 ω;rw[<-Nat.add_assoc]at this;exact this
      |bsliceE _ _ cs base J p2=>
       obtain⟨g,H,G⟩:=F 0 0 l u m E D e3 q1 L N K (qNr _);have I:u.toNat<=g/\g<=0:=by rcases G with⟨_,rfl⟩ |⟨_,rfl⟩<;>omega
       have R:(u-l).toNat=0:=ω
       rw[R];have e5:g=l.toNat:=ω
       refine aj.ret (AR.bsliceE s (off+l.toNat) cs base J ω) ?_;have:=Y base 0 0 _ _ _ H;rw[if_pos e5,show u.toNat-l.toNat=0 from ω,show g-l.toNat=0 from ω]at this;exact this
     .exact aj.fail
    .rename_i a ks xs;split
     .rename_i l u m E D e3;refine aj.chk λU=>aj.chk λB=>?_;simp only[beq_iff_eq]at U;subst U;simp only[qBa,qDa]at B;obtain⟨q1,L,N,K⟩:=B;have R:(u-l).toNat=u.toNat-l.toNat:=ω
      rw[R];cases O with
      |p _ _ O=>
      have lst:∃c',AR w M β h (.p (.list a ks ((xs.drop l.toNat).take (u.toNat-l.toNat)))) c'/\(Instr.sliceAt t c clo chi r).run P w=.ok c' w /\
          (S.isSome=true->u=m->AR w M β h (.p (.full a ks ((xs.drop l.toNat).take (u.toNat-l.toNat)))) c'):=by
        cases O with
        |list _ _ _ b o cap f J p2 p3 Z p5=>
         obtain⟨g,H,G⟩:=F xs.length cap l u m E D e3 q1 L N K p2;have I:u.toNat<=g/\g<=cap:=by rcases G with⟨_,rfl⟩ |⟨_,rfl⟩<;>omega
         refine⟨_,?_,Y _ _ _ _ _ _ H,?_⟩
         .by_cases q:g=l.toNat
          .have e0:u.toNat-l.toNat=0:=ω
           rw[if_pos q,e0];simp only[List.take_zero];exact .p _ _ (.iM a ks _ _)
          .rw[if_neg q];simp only[Option.map_some,addr_add];exact .p _ _ (VR.sub (_cap:=cap) J p3 Z p5 ω ω ω)
         .intro hs hum;have e6:g=u.toNat:=by
           rcases G with⟨h0,_⟩ |⟨_,h0⟩
           .rw[h0]at hs;cases hs
           .omega
          by_cases q:g=l.toNat
          .have e0:u.toNat-l.toNat=0:=ω
           rw[if_pos q,e0,show g-l.toNat=0 from ω];simp only[List.take_zero];exact .p _ _ (.JO a ks _)
          .rw[if_neg q,e6];simp only[Option.map_some,addr_add];exact .p _ _ (VR.aq0 J p3 Z p5 ω ω)
        |iM _ _ base cap=>
         obtain⟨g,H,G⟩:=F 0 cap l u m E D e3 q1 L N K (Nat.zero_le _);have z:l=0/\u=0/\m=0:=by simp at K;omega
         obtain⟨rfl,rfl,rfl⟩:=z;refine⟨_,?_,Y _ _ _ _ _ _ H,?_⟩
         .simpa using AR.p _ _ (.iM a ks _ _)
         .intro hs _;rcases G with⟨h0,_⟩ |⟨_,h0⟩
          .rw[h0]at hs;cases hs
          .subst h0;simpa using AR.p _ _ (.JO a ks _)
      obtain⟨c',r1,r2,r3⟩:=lst;split
      .exact aj.ret r1 r2
      .rename_i v;exact aj.ite (λhum=>aj.ret (r3 rfl (by simpa using hum)) r2) (λ_=>aj.ret r1 r2)
     .exact aj.fail
    .split
     .rename_i l u m E D e3;refine aj.chk λB=>?_;simp only[qBa,qDa]at B;obtain⟨rfl,rfl,rfl⟩:=B;cases O with
      |p _ _ O=>cases O with
      |nil=>
       obtain⟨g,H,G⟩:=F 0 0 0 0 0 E D e3 ω ω ω ω ω;have I:g=0:=by rcases G with⟨_,rfl⟩ |⟨_,rfl⟩<;>rfl
       subst I;refine aj.ret (.p _ _ .nil) ?_;have:=Y none 0 0 _ _ _ H;simpa using this
     .exact aj.fail
    .exact aj.fail
  .exact aj.fail
end
end
section
variable {t:TypeId}{b n o:Nat}{f:Nat->Value}
section
variable {P:Program}{T:Tab}{w:World}{M:Nat->Prop}{β:Nat->Option (Nat × Nat)}{h:Nat->Option aH}
theorem acU(ok:bJ P T){x i:AV}{c d:Value}(B:AR w M β h x c)(hi:AR w M β h i d):aj P w M β h (Lu T t x i) (Instr.index t c d):=by
 unfold Lu;split
 .rename_i k n;rw[hi.BI];split
  .rename_i s r;have r:=ok.und r;rw[B.Um];refine aj.chk λq=>?_;simp only[qBa,qDa]at q;have D:n.toNat<s.size:=ω
   refine aj.ret (.int _ _) ?_;have E:(if 0<=n then s[n.toNat]? else none)=some s[n.toNat]:=θ
   have X:s.data.getD n.toNat 0=s[n.toNat]:=by have:n.toNat<s.data.size:=D;unfold Array.getD;rw[dif_pos this];rfl
   simp only[Instr.index,asIntOf,Sem.run_bind,Sem.run_pure,qRa,aW r,E,X]
  .rename_i m e cs r;have r:=ok.und r;split
   .rename_i kd V g;refine aj.chk λE=>aj.chk λq=>?_;simp only[qBa,qDa]at q E;obtain⟨⟨a1,R⟩,Z⟩:=E;have R:=Nat.eq_of_beq_eq_true R;cases B with
    |p _ _ B=>cases B with
    |agg _ vs O Q J=>
     have D:n.toNat<cs.length:=ω
     have z:cs[n.toNat]?=some (cs.getD n.toNat .nil):=by simp[D]
     have W:kindOk kd (cs.getD n.toNat .nil)=true:=(List.all_eq_true.1 a1) _ (qLe z);refine aj.ret (.p _ _ (yA W (J _ _ z))) ?_;obtain⟨j,q1,F⟩:=ok.size g;obtain⟨dd,H⟩:=ok.acQ g;have K:wz P e=false:=by rw[<-ok.agg g];simpa using Z
     have L:vs[n.toNat]?=some (vs.getD n.toNat undef):=getD_some ω;simp only[Instr.index,asIntOf,Sem.run_bind,Sem.run_pure,qRa,aW r];rw[if_pos ⟨q.1,q.2⟩];simp only[Sem.run_bind,fZ q1,F,qRa,Nat.mul_one,part,lg H,K,Bool.false_eq_true,if_false,L,Sem.run_pure]
   .rename_i m' g _;refine aj.chk λE=>aj.chk λq=>?_;simp only[qBa,qDa]at q E;cases B with
    |p _ _ B=>cases B with
    |agg _ vs O Q J=>
     refine yD (λj hj=>?_) _ _;have G:j<m:=ω
     obtain⟨v,N⟩:=Option.isSome_iff_exists.1 ((List.all_eq_true.1 E.2) j (by simp[G]));obtain⟨q1,F,S⟩:=ok.size g;obtain⟨c,Y,g2⟩:=Qo (w:=w) (M:=M) (β:=β) (h:=h) ok g N (by simpa using O) (λc I=>by
      obtain⟨y,U,rfl⟩:=List.mem_map.1 I;exact Q y U) (λi c hi=>by
      rw[List.getElem?_map]at hi;cases hp:cs[i]? with
      |none=>rw[hp]at hi;cases hi
      |some y=>rw[hp]at hi;simp only[Option.map_some,qOa]at hi;subst hi;exact .p _ _ (J i y hp)) (ok.acQ g)
     rw[N];refine aj.ret Y ?_;simp only[Instr.index,asIntOf,Sem.run_bind,Sem.run_pure,qRa,aW r];rw[if_pos ⟨q.1,q.2⟩];simp only[Sem.run_bind,fZ F,S,qRa];grind
   .exact aj.fail
  .exact aj.fail
 .exact aj.fail
theorem wK(p:∀j,j<n->w.cell? ⟨b,o+j,none⟩=some (f j)):(loadCells ⟨b,o,none⟩ n).run P w=.ok (Array.ofFn λ(i:Fin n)=>f i) w:=by
 have:=run_loadCells w (P:=P) ⟨b,o,none⟩ n f (λj g=>by rw[addr_add];exact p j g);rw[this];congr 1;apply Array.ext
 .simp
 simp
theorem qC:∀(ks:List Kd) (x:PV) (o j:Nat),(eY ks x o)[j]?=(ks[j]?).map λk=>eta k (x.cell (o+j))
 |[],x,o,j=>by simp[eY]
 |k::ks,x,o,0=>by simp[eY]
 |k::ks,x,o,j+1=>by simp[eY,qC ks x (o+1) j,Nat.add_assoc,Nat.add_comm 1 j]
theorem Un(ok:bJ P T){a:Bool}{ks:List Kd}{x v:PV}{off:Nat}(J:oK T t=some n)(g:VJ T t n a ks x off=some v)(O:aA a ks x=true)
    (U:∀(j:Nat) (c:PV),x.cells[j]?=some c->w.cell? ⟨b,o+j,none⟩=some (f j))(Q:∀(j:Nat) (c:PV),x.cells[j]?=some c->VR w M c (f j)) :
    ∃c,VR w M v c/\(loadVar t ⟨b,o+off,none⟩).run P w=.ok c w:=by
  obtain⟨i,hi,I⟩:=ok.size J;obtain⟨d,hd⟩:=ok.acQ J;unfold VJ at g;cases L:Nat.ble (off+n) ks.length with
  |false=>rw[L]at g;cases g
  |true=>
   have S:=Nat.le_of_ble_eq_true L;rw[L,ok.agg J]at g;simp only[qCt]at g;cases H:wz P t with
   |true=>
    rw[H]at g;simp only[qCt]at g;cases a with
    |false=>cases g
    |true=>
     simp only[qCt,qOa]at g;subst g;have D:(eY ((ks.drop off).take n) x off).length=n:=by
      have:∀(l:List Kd) (y:PV) (o:Nat),(eY l y o).length=l.length:=by
       intro l;induction l with
       |nil=>intros;rfl
       |cons k r R=>intro y o;simp[eY,R]
      grind
     have cell:∀j,j<n->∃k c,ks[off+j]?=some k/\x.cells[off+j]?=some c/\kindOk k c=true/\x.cell (off+j)=c:=by
      intro j q;have E:ks[off+j]?=some (ks[off+j]'ω):=σ
      obtain⟨c,B,F,z⟩:=rD O E;grind
     refine⟨.agg (Array.ofFn λ(i:Fin n)=>f (off+i)),.agg _ _ (by simp[D]) ?_ ?_,?_⟩
     .intro c K;obtain⟨j,q⟩:=List.mem_iff_getElem?.1 K;rw[qC]at q;have p:j<n:=θ
      obtain⟨k,c0,B,F,z,N⟩:=cell j p;rw[List.getElem?_take,if_pos p,List.getElem?_drop,B]at q;simp only[Option.map_some,qOa]at q;rw[<-q,N];exact JQ z
     .intro j c q;rw[qC]at q;have p:j<n:=θ
      obtain⟨k,c0,B,F,z,N⟩:=cell j p;rw[List.getElem?_take,if_pos p,List.getElem?_drop,B]at q;simp only[Option.map_some,qOa]at q;rw[<-q,N];have:(Array.ofFn λ(i:Fin n)=>f (off+i)).getD j undef=f (off+j):=by simp[p]
      rw[this];exact yA z (Q _ _ F)
     .have:=wK (P:=P) (w:=w) (b:=b) (o:=o+off) (n:=n) (f:=λj=>f (off+j)) (λj q=>θ);simp only[loadVar,Sem.run_bind,lg hd,H,qRa,if_true,fZ hi,I,this,Sem.run_pure]
   |false=>
    rw[H]at g;simp only[qCf]at g;cases G:Nat.beq n 1 with
    |false=>rw[G]at g;cases g
    |true=>
     have G:=Nat.eq_of_beq_eq_true G;subst G;cases E:ks[off]? with
     |none=>simp at E;omega
     |some k=>
      have:(ks.drop off).head?=some k:=by rw[List.head?_drop];exact E
      rw[this]at g;simp only[show Nat.beq 1 1=true from rfl,qCt,qOa]at g;subst g;obtain⟨c,B,F,z⟩:=rD O E;refine⟨f off,by rw[z];exact yA F (Q _ _ B),?_⟩;simp only[loadVar,Sem.run_bind,lg hd,H,qRa,Bool.false_eq_true,if_false];simp_all
end
end
section
variable {h':Nat -> Option aH}{t:TypeId}{x:AV}{c:Value}
section
variable {P:Program}{T:Tab}{w:World}{M:Nat->Prop}{β:Nat->Option (Nat × Nat)}{h:Nat->Option aH}
theorem pY{b i:Nat}{C:Array Value}{e:TypeId}{fr:Nat × Nat}(g:w.heap[b]?=some (.cells C e fr))(hi:i<C.size):w.cell? ⟨b,i,none⟩=some (C.getD i undef):=by simp_all[World.cell?]
theorem Yg(ok:bJ P T)(F:∀s b,h' s=some b->h s=some b)(hh:∀s b,h s=some b->BR w M β h s b) 
    (J:AR w M β h x c):aj P w M β h (EH T h' t x) (Instr.loadAt t c):=by
  unfold EH;split
  .exact aj.fail
  .rename_i n K;obtain⟨i,hi,N⟩:=ok.size K;obtain⟨d,hd⟩:=ok.acQ K;have at_:∀(a:Addr) (v:Value),(loadVar t a).run P w=.ok v w->(Instr.loadAt t (.pointer (some a))).run P w=.ok v w:=by intro a v h1;simp[Instr.loadAt,Instr.sureAddr,h1]
   split
   .rename_i s B off;split
    .rename_i cs r;have r:=F _ _ r;cases J with
     |ptrA _ _ _ a ks xs b o q E p3=>rw[r]at q;cases q
     |ptrT _ _ _ _ _ b q E=>rw[r]at q;cases q
     |ptrB _ _ cs' b o q E=>
      split
      .rename_i v I;obtain⟨r1,z⟩:=IE ok K I;cases hh s _ r with
       |box _ b' o' C e fr O Z g3 g4 Y g6=>
        rw[E]at O;cases O;have cell:∀j,j<cs.length->w.cell? ⟨b,o+j,none⟩=some (C.getD (o+j) undef):=λj g=>pY Z ω;rcases z with⟨z,rfl⟩ |⟨z,rfl,rfl⟩
        .refine aj.ret (c:=.agg (Array.ofFn λ(i:Fin n)=>C.getD (o+off+i) undef)) (AR.DN ?_ ?_ ?_) (at_ _ _ ?_)
         .simp;omega
         .intro c X;exact Y c (List.mem_of_mem_drop (List.mem_of_mem_take X))
         .intro j c g;have D:j<n:=by have:=(qLa.1 g).1;simp at this;omega
          rw[List.getElem?_take,if_pos D,List.getElem?_drop]at g;have Q:(Array.ofFn λ(i:Fin n)=>C.getD (o+off+i) undef).getD j undef=C.getD (o+(off+j)) undef:=by rw[<-Nat.add_assoc];unfold Array.getD;rw[dif_pos (by simpa using D)];simp
          rw[Q];exact g6 _ _ g
         .have:=wK (P:=P) (w:=w) (b:=b) (o:=o+off) (n:=n) (f:=λj=>C.getD (o+off+j) undef) (λj g=>by have:=cell (off+j) ω;rw[<-Nat.add_assoc]at this;exact this);simp only[loadVar,Sem.run_bind,lg hd,z,qRa,if_true,fZ hi,N,this,Sem.run_pure]
        .have G:off<cs.length:=ω
         refine aj.ret (g6 off _ (by simp[G])) (at_ _ _ ?_);simp only[loadVar,Sem.run_bind,lg hd,z,qRa,Bool.false_eq_true,if_false];simp only[run_load,cell off G]
      .exact aj.fail
    .rename_i a ks xs r;have r:=F _ _ r;cases J with
     |ptrB _ _ cs' b o q E=>rw[r]at q;cases q
     |ptrT _ _ _ _ _ b q E=>rw[r]at q;cases q
     |ptrA _ _ _ a' ks' xs' b o q E p3=>
      rw[r]at q;cases q;split
      .rename_i v I;have H:xs[B]?=some (xs.getD B .nil):=by simp[E]
       cases hh s _ r with
       |gJ=>simp at E
       |arr _ _ _ b' o' C e fr O Z g3 g4 Y g6=>
        rw[p3]at O;cases O;have hshape:=Y _ (qLe H);have hlen:=bV hshape
        obtain⟨c,W,V⟩:=Un (P:=P) (w:=w) (M:=M) ok (b:=b) (o:=o+B*ks.length) (f:=λj=>C.getD (o+B*ks.length+j) undef) K I hshape
         (λj c g=>by
           have hj':j<ks.length:=by have:=(qLa.1 g).1;omega
           have:(B+1)*ks.length<=xs.length*ks.length:=Nat.mul_le_mul_right _ E;rw[Nat.add_mul]at this;exact pY Z ω)
         (λj c g=>g6 _ _ _ _ H g)
        exact aj.ret (.p _ _ W) (at_ _ _ V)
      .exact aj.fail
    .exact aj.fail
   .rename_i a ks x off;split
    .rename_i v I;cases J with
     |pF _ _ _ _ b o f q1 U S R=>obtain⟨c,W,V⟩:=Un (P:=P) (w:=w) (M:=M) ok K I U S R;exact aj.ret (.p _ _ W) (at_ _ _ V)
    .exact aj.fail
   .rename_i cs;split
    .rename_i v I;obtain⟨r1,z⟩:=IE ok K I;simp only[qLm,qNz]at r1;cases J with
     |p _ _ J=>cases J with
     |ref _ b o f q1 U S R _=>
      have cell:∀j,j<cs.length->w.cell? ⟨b,o+j,none⟩=some (f j):=λj g=>S j _ (qLd g);rcases z with⟨z,rfl⟩ |⟨z,rfl,rfl⟩
      .refine aj.ret (c:=.agg (Array.ofFn λ(i:Fin n)=>f i)) (AR.DN ?_ ?_ ?_) (at_ _ _ ?_)
       .simp;omega
       .intro c X;have:=List.mem_of_mem_drop (List.mem_of_mem_take X);obtain⟨y,L,rfl⟩:=List.mem_map.1 this;exact U y L
       .intro j c g;have D:j<n:=by have:=(qLa.1 g).1;simp at this;omega
        rw[List.getElem?_take,if_pos D,List.getElem?_drop,qNz,List.getElem?_map]at g;have Q:(Array.ofFn λ(i:Fin n)=>f i).getD j undef=f j:=by unfold Array.getD;rw[dif_pos (by simpa using D)];simp
        rw[Q];cases L:cs[j]? with
        |none=>rw[L]at g;simp at g
        |some y=>rw[L]at g;simp at g;subst g;exact .p _ _ (R j y L)
       .have:=wK (P:=P) (w:=w) (b:=b) (o:=o) (n:=n) (f:=f) (λj g=>cell j ω);simp only[loadVar,Sem.run_bind,lg hd,z,qRa,if_true,fZ hi,N,this,Sem.run_pure]
      .have h0:0<cs.length:=ω
       have hg:cs[0]?=some cs[0]:=qLd h0;have Q:(cs.map AV.p).getD 0 .undef=.p cs[0]:=by simp[List.getD,hg]
       refine aj.ret (c:=f 0) (by rw[Q];exact .p _ _ (R 0 _ hg)) (at_ _ _ ?_);have:=cell 0 h0;simp only[Nat.add_zero]at this;simp only[loadVar,Sem.run_bind,lg hd,z,qRa,Bool.false_eq_true,if_false];simp only[run_load,this]
    .exact aj.fail
   .exact aj.fail
theorem ahl(ok:bJ P T)(D:∀s b,h' s=some b->h s=some b)(K:∀s blk,h s=some blk->BR w M β h s blk){ts:Array TypeId}{ty:TypeId}(r:ts[0]?=some t)(q:AR w M β h x c) :
    aj P w M β h (Gh T h' t x) (Builtin.len_ ts ty #[c]):=by
  unfold Gh;split
  .rename_i R U s g;have g:=ok.und g;split
   .rename_i u V F;have G:=D _ _ F;cases q with
    |Iz _ _ _ _ _ B=>rw[G]at B;cases B
    |yB _ _ B=>rw[G]at B;cases B
    |Iy _ O es' b o B N=>
     cases K _ _ G with
     |mp _ _ b' Q E k H J I S=>
      rw[N]at H;cases H;have L:(getObj b).run P w=.ok (.map E k) w:=by simp[getObj,Sem.run,J]
      refine aj.ret (.int _ _) ?_;unfold Builtin.len_;simp only[r,show(#[Value.map (some b)]:Array Value)[0]?=some (.map (some b)) from rfl,Sem.run_bind,aW g,qRa,L,Sem.run_pure,goInt,I.1]
   .exact aj.fail
  .rename_i s g;rw[q.Um];exact aj.ret (.int _ _) (by simp[Builtin.len_,r,aW (ok.und g),goInt])
  .rename_i e s z off len g;have g:=ok.und g;cases q with
   |slice=>exact aj.ret (.int _ _) (by simp[Builtin.len_,r,aW g,goInt])
   |sliceE=>exact aj.ret (.int _ _) (by simp[Builtin.len_,r,aW g,goInt])
  .rename_i e s off len g;have g:=ok.und g;cases q with
   |bslice=>exact aj.ret (.int _ _) (by simp[Builtin.len_,r,aW g,goInt])
   |bsliceE=>exact aj.ret (.int _ _) (by simp[Builtin.len_,r,aW g,goInt])
  .rename_i e a ks xs g;have g:=ok.und g;cases q with
   |p _ _ q=>cases q with
   |list=>exact aj.ret (.int _ _) (by simp[Builtin.len_,r,aW g,goInt])
   |iM=>exact aj.ret (.int _ _) (by simp[Builtin.len_,r,aW g,goInt])
  .rename_i e a ks xs g;have g:=ok.und g;cases q with
   |p _ _ q=>cases q with
   |full=>exact aj.ret (.int _ _) (by simp[Builtin.len_,r,aW g,goInt])
   |JO=>exact aj.ret (.int _ _) (by simp[Builtin.len_,r,aW g,goInt])
  .rename_i e g;have g:=ok.und g;cases q with
   |p _ _ q=>cases q with
   |nil=>exact aj.ret (.int _ _) (by simp[Builtin.len_,r,aW g,goInt])
  .rename_i n e g;have g:=ok.und g;refine aj.ret (.int _ _) ?_;cases c<;>simp[Builtin.len_,r,aW g,goInt]
  .exact aj.fail
def lq(w:World)(M:Nat->Prop)(β:Nat->Option (Nat × Nat))(h:Nat->Option aH)(xs:List AV)(cs:List Value):Prop:=
 xs.length=cs.length/\∀(i:Nat) (x:AV) (c:Value),xs[i]?=some x->cs[i]?=some c->AR w M β h x c
theorem lq.cons{xs:List AV}{cs:List Value}(g:lq w M β h (x::xs) (c::cs)):AR w M β h x c/\lq w M β h xs cs:=
 ⟨g.2 0 x c rfl rfl,by simpa using g.1,λi y d q p=>g.2 (i+1) y d (by simpa using q) (by simpa using p)⟩
end
end
section
variable {v:AV}{c:Value}{ss:List Nat}{b cap len o off s:Nat}{cs:List AV}{kd:Kd}{vs:List PV}{h':Nat -> Option aH}{x:PV}
section
variable {P:Program}{T:Tab}{w:World}{M:Nat->Prop}{β:Nat->Option (Nat × Nat)}{h:Nat->Option aH}
def bg(M:Nat->Prop)(β:Nat->Option (Nat × Nat))(ss:List Nat)(b:Nat):Prop:=M b\/∃s o,s∈ss/\β s=some (b,o)
theorem VR.plus{v:PV}(g:VR w M v c)(ss:List Nat):VR w (bg M β ss) v c:=g.mono λ_ p=>⟨.inl p,rfl⟩
theorem VR.more{v:PV}{p:List Nat}(g:∀s∈ss,s∈p)(q:VR w (bg M β ss) v c):VR w (bg M β p) v c:=
 q.mono λ_ r=>⟨r.imp id λ⟨s,o,B,z⟩=>⟨s,o,g s B,z⟩,rfl⟩
theorem afo{a:Bool}{ks:List Kd}{xs:List PV}(F:BR w M β h s (.arr a ks xs))(p:β s=some (b,o))(D:s∈ss)(q:off+len<=xs.length)(J:len<=cap) :
    VR w (bg M β ss) (.list a ks ((xs.drop off).take len)) (.slice (some ⟨b,o+off*ks.length,none⟩) len cap):=by
  cases F with
  |gJ=>
   have G:len=0:=by simp at q;omega
   subst G;simpa using VR.iM a ks (some ⟨b,o+off*ks.length,none⟩) cap
  |arr _ _ _ b' I C e fr B H L K z g6=>
   rw[p]at B;cases B
   have key:=VR.sub (w:=w) (M:=bg M β ss) (a:=a) (ks:=ks) (xs:=xs) (b:=b) (o:=o) (_cap:=cap) (cap':=cap) (f:=λi j=>C.getD (o+i*ks.length+j) undef) (l:=off) (u:=off+len)
    (.inr ⟨s,o,D,p⟩)
    (λi x j c g r=>by
      have hi:=(qLa.1 g).1;have E:j<ks.length:=by have:=bV (z x (qLe g));grind
      have:(i+1)*ks.length<=xs.length*ks.length:=Nat.mul_le_mul_right _ hi;rw[Nat.add_mul]at this;exact pY H ω)
    (λi x j c g r=>(g6 i x j c g r).plus ss) z ω q ω
   grind
theorem Qv(g:JF cs=some (kd,vs)):cs=vs.map .p/\∀v∈vs,kindOk kd v=true:=by
 unfold JF at g;split at g
 .rename_i v r hp;cases q:(v::r).all (kindOk (VH v))with
  |false=>rw[q]at g;cases g
  |true=>rw[q]at g;simp only[qCt,qOa,Prod.mk.injEq]at g;obtain⟨rfl,rfl⟩:=g;exact⟨uQ hp,λx z=>(List.all_eq_true.1 q) x z⟩
 .cases g
theorem afp(H:BR w M β h s (.box cs))(B:β s=some (b,o))(F:s∈ss)(z:JF cs=some (kd,vs))
    (G:off+cap<=cs.length)(N:len<=cap):VR w (bg M β ss) (.list false [kd] ((vs.drop off).take len)) (.slice (some ⟨b,o+off,none⟩) len cap):=by
  obtain⟨K,E⟩:=Qv z;subst K;simp only[qLm]at G;cases H with
  |box _ b' L C e fr D J I Q O g6=>
   rw[B]at D;cases D;simp only[qLm]at I;have leaf:∀v∈vs,v.cells=[v]:=λv z=>by have:=iG (E v z);cases v<;>first |rfl |simp[PV.leaf]at this
   have get:∀(i:Nat) (x:PV),vs[i]?=some x->VR w M x (C.getD (o+i) undef):=λi x g=>by have:=g6 i (.p x) (by simp[g]);cases this;assumption
   have key:=VR.sub (w:=w) (M:=bg M β ss) (a:=false) (ks:=[kd]) (xs:=vs) (b:=b) (o:=o) (_cap:=cap) (cap':=cap) (f:=λi j=>C.getD (o+i) undef) (l:=off) (u:=off+len)
    (.inr ⟨s,o,F,B⟩)
    (λi x j c g r=>by
      have hi:=(qLa.1 g).1;rw[leaf x (qLe g)]at r;have q:j=0:=θ
      subst q;simpa using pY J (i:=o+i) ω)
    (λi x j c g r=>by
      rw[leaf x (qLe g)]at r;have q:j=0:=θ
      subst q;simp at r;subst r;exact(get i x g).plus ss)
    (λx g=>by simpa[aA] using E x g) ω ω ω
   grind
theorem Yh(O:∀s b,h' s=some b->BR w M β h s b)(r:∀s b,h' s=some b->h s=some b)(hd:Nb h' v=some (x,ss))(G:AR w M β h v c) :
    VR w (bg M β ss) x c/\(v.leaf=true->x.leaf=true)/\∀s∈ss,(h s).isSome=true:=by
  unfold Nb at hd;split at hd
  .cases hd;cases G with
   |p _ _ G=>exact⟨G.plus [],λh=>h,λs g=>by simp at g⟩
  .rename_i s z off len;split at hd
   .rename_i a ks xs g;have B:=g;have g:=r _ _ g;cases hd;refine⟨?_,λ_=>rfl,λS q=>by simp at q;subst q;rw[g];rfl⟩;cases G with
    |slice _ _ _ a' N J b o cap F D L K p5=>rw[g]at F;cases F;exact afo (O s _ B) L σ D K
    |sliceE _ _ a' N J base F D=>simpa using VR.iM a ks base 0
   .cases hd
  .rename_i s off len;split at hd
   .rename_i cs g;have B:=g;have g:=r _ _ g;split at hd
    .rename_i kd vs Y;cases hd;refine⟨?_,λ_=>rfl,λS q=>by simp at q;subst q;rw[g];rfl⟩;cases G with
     |bslice _ _ _ R b o cap F D L K=>rw[g]at F;cases F;exact afp (O s _ B) L σ Y D K
     |bsliceE _ _ R base F D=>simpa using VR.iM false [kd] base 0
    .cases hd
   .cases hd
  .rename_i s;split at hd
   .rename_i t es g;have B:=g;have g:=r _ _ g;cases hd;refine⟨?_,λ_=>rfl,λS q=>by simp at q;subst q;rw[g];rfl⟩;cases G with
    |Iz _ _ _ _ _ I=>rw[g]at I;cases I
    |yB _ _ I=>rw[g]at I;cases I
    |Iy _ Z es' b o F D=>
     cases O s _ B with
     |mp _ _ b' o' E k V X W U=>
      rw[D]at V;cases V;refine .Ig _ _ b E k (.inr ⟨s,o,σ,D⟩) X (by simpa using W) σ ?_ ?_
      .intro i x e H Q;simp only[List.getElem?_map,Option.map_eq_some_iff]at H;obtain⟨p,hp,rfl⟩:=H;exact(U i p e hp Q).1.plus _
      .intro i x e H Q;simp only[List.getElem?_map,Option.map_eq_some_iff]at H;obtain⟨p,hp,rfl⟩:=H;exact(U i p e hp Q).2.plus _
   .cases hd
  .cases hd
theorem LK{h':Nat->Option aH}(B:∀s b,h' s=some b->BR w M β h s b)(p:∀s b,h' s=some b->h s=some b):∀{vs:List AV}{xs:List PV}{ss:List Nat}{f:Nat->Value},yh h' vs=some (xs,ss) ->
    (∀(i:Nat) (v:AV),vs[i]?=some v->AR w M β h v (f i))->(∀v∈vs,v.leaf=true) ->
    xs.length=vs.length/\(∀x∈xs,x.leaf=true)/\(∀(i:Nat) (x:PV),xs[i]?=some x->VR w (bg M β ss) x (f i))/\∀s∈ss,(h s).isSome=true
  |[],xs,ss,f,hd,_,_=>by simp[yh]at hd;obtain⟨rfl,rfl⟩:=hd;simp
  |v::r,xs,ss,f,hd,hv,hl=>by
   simp only[yh]at hd;split at hd
   .rename_i x L ys s2 E D;cases hd;obtain⟨K,J,I⟩:=Yh B p E (hv 0 v σ);obtain⟨b1,H,G,F⟩:=LK B p (f:=λi=>f (i+1)) D (λi u z=>hv (i+1) u (by simpa using z)) (λu z=>hl u (by simp[z]));refine⟨by simp[b1],?_,?_,?_⟩
    .intro y q;rcases List.mem_cons.1 q with rfl |q
     .exact J (hl v σ)
     .exact H y q
    .intro i y hi;cases i with
     |zero=>simp at hi;subst hi;exact K.more λs g=>by simp[g]
     |succ i=>simp at hi;exact(G i y hi).more λs g=>by simp[g]
    .intro s g;rcases List.mem_append.1 g with g |g
     .exact I s g
     .exact F s g
   .cases hd
theorem Qw(E:∀s b,h' s=some b->BR w M β h s b)(g:∀s b,h' s=some b->h s=some b)(hd:JG h' v=some (x,ss))(F:AR w M β h v c) :
    VR w (bg M β ss) x c/\(v.leaf=true->x.leaf=true)/\∀s∈ss,(h s).isSome=true:=by
  unfold JG at hd;split at hd
  .rename_i s;split at hd
   .rename_i cs p;have B:=p;have p:=g _ _ p;split at hd
    .rename_i vs I K;cases hd;cases F with
     |ptrA _ _ _ a ks xs b o r z U=>rw[p]at r;cases r
     |ptrT _ _ _ _ _ b r z=>rw[p]at r;cases r
     |ptrB _ _ O b o r z=>
      cases E s _ B with
      |box _ b' V C e fr H G W N L g6=>
       rw[z]at H;cases H;obtain⟨b1,S,R,Q⟩:=LK E g (f:=λi=>C.getD (o+i) undef) K g6 L;refine⟨?_,λ_=>rfl,?_⟩
       .simp only[Nat.add_zero];refine .ref vs b o (λi=>C.getD (o+i) undef) (.inr ⟨s,o,σ,z⟩) S ?_ (λj c D=>(R j c D).more λs p=>by simp[p]) (Room.mk G ω N);intro j c D;have:=(qLa.1 D).1;exact pY G ω
       .intro J q;rcases List.mem_cons.1 q with rfl |q
        .rw[p];rfl
        .exact Q J q
    .cases hd
   .cases hd
  .exact Yh E g hd F
theorem Uo{h':Nat->Option aH}(q:∀s b,h' s=some b->BR w M β h s b)(p:∀s b,h' s=some b->h s=some b):∀{vs:List AV}{xs:List PV}{ss:List Nat}{f:Nat->Value},ED h' vs=some (xs,ss) ->
    (∀(i:Nat) (v:AV),vs[i]?=some v->AR w M β h v (f i)) ->
    xs.length=vs.length/\(∀(i:Nat) (x:PV),xs[i]?=some x->VR w (bg M β ss) x (f i))/\∀s∈ss,(h s).isSome=true
  |[],xs,ss,f,hd,_=>by simp[ED]at hd;obtain⟨rfl,rfl⟩:=hd;simp
  |v::r,xs,ss,f,hd,hv=>by
   simp only[ED]at hd;split at hd
   .rename_i x I ys s2 D B;cases hd;obtain⟨H,J,G⟩:=Qw q p D (hv 0 v σ);obtain⟨b1,F,E⟩:=Uo q p (f:=λi=>f (i+1)) B (λi u z=>hv (i+1) u (by simpa using z));refine⟨by simp[b1],?_,?_⟩
    .intro i y hi;cases i with
     |zero=>simp at hi;subst hi;exact H.more λs g=>by simp[g]
     |succ i=>simp at hi;exact(F i y hi).more λs g=>by simp[g]
    .intro s g;rcases List.mem_append.1 g with g |g
     .exact G s g
     .exact E s g
   .cases hd
theorem Gp(z:∀s b,h' s=some b->BR w M β h s b)(g:∀s b,h' s=some b->h s=some b)(hd:deep h' v=some (x,ss))(r:AR w M β h v c) :
    VR w (bg M β ss) x c/\∀s∈ss,(h s).isSome=true:=by
  unfold deep at hd;split at hd
  .rename_i cs;split at hd
   .rename_i vs q D;cases hd;cases r with
    |agg _ p G H B=>obtain⟨b1,I,F,E⟩:=LK z g (f:=λi=>p.getD i undef) D B H;exact⟨.agg vs p ω I F,E⟩
   .cases hd
  .rename_i f cs;split at hd
   .rename_i vs q D;cases hd;cases r with
    |fn _ _ p G B=>obtain⟨b1,F,E⟩:=Uo z g (f:=λi=>p.getD i undef) D B;exact⟨.fn f vs p ω F,E⟩
   .cases hd
  .obtain⟨K,_,J⟩:=Qw z g hd r;grind
theorem EO{h':Nat->Option aH}(z:∀s b,h' s=some b->BR w M β h s b)(p:∀s b,h' s=some b->h s=some b):∀{vs:List AV}{xs:List PV}{ss:List Nat}{cs:List Value},EF h' vs=some (xs,ss) ->
    lq w M β h vs cs->xs.length=cs.length/\(∀(i:Nat) (x:PV) (c:Value),xs[i]?=some x->cs[i]?=some c->VR w (bg M β ss) x c)/\∀s∈ss,(h s).isSome=true
  |[],xs,ss,cs,hd,hl=>by
   simp[EF]at hd;obtain⟨rfl,rfl⟩:=hd;have:cs=[]:=by have:=hl.1;simpa using this.symm
   subst this;simp
  |v::r,xs,ss,[],hd,hl=>by have:=hl.1;simp at this
  |v::r,xs,ss,c::cs,hd,hl=>by
   simp only[EF]at hd;split at hd
   .rename_i x K ys s2 F E;cases hd;obtain⟨D,B⟩:=hl.cons;obtain⟨J,I⟩:=Gp z p F D;obtain⟨b1,H,G⟩:=EO z p E B;refine⟨by simp[b1],?_,?_⟩
    .intro i y d hi q;cases i with
     |zero=>simp at hi q;subst hi;subst q;exact J.more λs g=>by simp[g]
     |succ i=>simp at hi q;exact(H i y d hi q).more λs g=>by simp[g]
    .intro s g;rcases List.mem_append.1 g with g |g
     .exact I s g
     .exact G s g
   .cases hd
end
end
section
variable {C C':Array Value}{b k:Nat}{vs:List Value}{w:World}{e:TypeId}{fr:Nat × Nat}{c v:Value}
def fJ(w:World)(b:Nat)(C:Array Value)(e:TypeId)(fr:Nat × Nat):World:={w with heap:=w.heap.setIfInBounds b (.cells C e fr)}
def dO(C:Array Value)(k:Nat)(vs:List Value):Array Value:=(patch C.toList k vs).toArray
theorem gU(h:k+vs.length<=C.size):(dO C k vs).size=C.size:=by simp only[dO,List.size_toArray];rw[oQ _ _ _ (by simpa using h)];simp
theorem qh(h:k+vs.length<=C.size)(i:Nat) :
    (dO C k vs).getD i undef=if k<=i/\i<k+vs.length then vs.getD (i-k) undef else C.getD i undef:=by
  have:=xk C.toList k vs (by simpa using h) i;simp only[dO,qAb,List.getElem?_toArray,this];split<;>simp[List.getD]
theorem Np(g:w.heap[b]?=some (.cells C e fr)):fJ w b C e fr=w:=by
 unfold fJ;have:w.heap.setIfInBounds b (.cells C e fr)=w.heap:=θ
 rw[this]
theorem uS(g:w.heap[b]?=some (.cells C e fr)):(fJ w b C' e fr).heap[b]?=some (.cells C' e fr):=by have:=(qAa.1 g).1;simp[fJ,this]
theorem Hf:fJ (fJ w b C e fr) b C' e fr=fJ w b C' e fr:=by simp[fJ]
theorem setCell_eq{i:Nat}(g:w.heap[b]?=some (.cells C e fr)):w.setCell ⟨b,i,none⟩ v=fJ w b (C.setIfInBounds i v) e fr:=by unfold World.setCell fJ;congr 1;grind
theorem Us(h:k+(v::vs).length<=C.size):dO (C.setIfInBounds k v) (k+1) vs=dO C k (v::vs):=by
 simp only[qLl]at h;have q:k+1+vs.length<=(C.setIfInBounds k v).size:=by simp;omega
 have g:k+(v::vs).length<=C.size:=by simp;omega
 apply Array.ext
 .rw[gU q,gU g];simp
 .intro i E p;have z:=qh q i;have r:=qh g i;rw[Array.getD,dif_pos E]at z;rw[Array.getD,dif_pos p]at r;have G:(dO (C.setIfInBounds k v) (k+1) vs)[i]=_:=z;have F:(dO C k (v::vs))[i]=_:=r;rw[G,F];rw[gU g]at p;by_cases D:k=i
  .subst D;rw[if_neg ω,if_pos σ];simp[p]
  .by_cases B:k+1<=i/\i<k+1+vs.length
   .grind
   .rw[if_neg B,if_neg (by simp;omega)];simp_all
theorem yE{P:Program}{b o:Nat}{e:TypeId}{fr:Nat × Nat}:∀(vs:List Value) (i:Nat) (w:World) (C:Array Value),w.heap[b]?=some (.cells C e fr)->Open C fr->o+i+vs.length<=C.size ->
    (∀v∈vs,v.oneCell'=true)->(storeCells ⟨b,o,none⟩ vs i).run P w=.ok () (fJ w b (dO C (o+i) vs) e fr)
  |[],i,w,C,hw,_,hl,_=>by
   have:dO C (o+i) []=C:=by simp[dO,patch]
   rw[this,Np hw];rfl
  |v::r,i,w,C,hw,ho,hl,h1=>by
   simp only[qLl]at hl;have hcell:w.cell? ⟨b,o+i,none⟩=some (C.getD (o+i) undef):=pY hw ω;have g:w.frozen? ⟨b,o+i,none⟩=false:=by simp only[World.frozen?,hw];have:=ho.at (o+i) ω;simp only[Bool.and_eq_false_iff,decide_eq_false_iff_not];omega
   have q:=(qAa.1 hw).1;simp only[storeCells,Sem.run_bind,addr_add,run_store P w _ v .plain (h1 v σ),hcell,g,Bool.false_eq_true,if_false,qRa,setCell_eq hw];rw[yE r (i+1) _ (C.setIfInBounds (o+i) v) (uS hw) (ho.size σ) (by simp;omega) (λu p=>h1 u (by simp[p])),Hf];congr 2;rw[<-Nat.add_assoc];exact Us (by simp;omega)
section
variable {w0:Base}{Pr M0 M:Nat->Prop}{β:Nat->Option (Nat × Nat)}{st:St}{a:Act}{w:World}
theorem lu:∀{ss:List Nat},gI ss=true->∀s∈ss,s<ah
 |[],_,s,g=>by simp at g
 |x::r,h,s,g=>by
  simp only[gI,qBa]at h;rcases List.mem_cons.1 g with rfl |g
  .exact(Nat.blt_eq▸h.1:_)
  .exact lu h.2 s g
theorem Rel.freeze(r:Rel w0 Pr M0 M β st a w)(z ss:List Nat)(B:gI ss=true)(q:∀s∈ss,(look st.heap s).isSome=true):Rel w0 Pr M0 (bg M β ss) β (st.strike (z++ss)) a w:=by
 refine r.strike (z++ss) (λb g=>.inl g) λb g=>?_;rcases g with g |⟨s,o,p,g⟩
 .exact .inl g
 .refine .inr ⟨?_,s,o,by simp[p],q s p,g⟩;rcases(r.own s b o (q s p) g).2.2.2 with h |h
  .exact h
  .have:=lu B s p;omega
theorem bY(ss:List Nat)(x:Nat):look (st.strike ss).heap x=if x∈ss then none else(look st.heap x).map (aH.kill ss):=by
 cases ss with
 |nil=>
  have:∀b:aH,aH.kill [] b=b:=by
   have kn:∀v:AV,AV.kill [] v=v:=by
    have:(∀v:AV,AV.refers [] v=false):=by
     intro v;have key:∀(v:AV),AV.refers [] v=false:=by intro v;apply AV.rec (motive_1:=λv=>AV.refers [] v=false) (motive_2:=λl=>AV.fU [] l=false)<;>intros<;>simp_all[AV.refers,AV.fU,fB]
     exact key v
    intro v;unfold AV.kill;rw[this];rfl
   have g:∀cs:List AV,gq [] cs=cs:=by
    intro cs;induction cs with
    |nil=>rfl
    |cons v r p=>simp[gq,kn,p]
   intro b;cases b with
   |box cs=>simp[aH.kill,g]
   |arr=>rfl
   |log=>rfl
   |tb t c0 c1=>simp[aH.kill,kn]
   |mp t B=>rfl
   |br e xs=>rfl
  simp only[St.strike,List.not_mem_nil,if_false];cases look st.heap x with
  |none=>rfl
  |some b=>simp[this]
 |cons z q=>simp only[St.strike,rE,fE]
theorem AR.struck{M':Nat->Prop}{v:AV}(h:AR w M β (look st.heap) v c)(ss:List Nat)(B:∀b,M b->M' b)(p:∀s∈ss,AV.refers [s] v=false):AR w M' β (look (st.strike ss).heap) v c:=by refine h.mono (λb z=>⟨B b z,rfl⟩) λs blk g r=>⟨blk.kill ss,?_,aH.xg _ _,rfl,λ_ _ _ _ h=>h⟩;rw[bY,if_neg (λq=>by rw[p s q]at g;cases g),r];rfl
theorem nX{hp:Heap}:∀{l:List Nat}{s:Nat},s∈present hp l->s∈l/\(look hp s).isSome=true
 |[],s,h=>by simp[present]at h
 |x::r,s,h=>by
  simp only[present]at h;split at h
  .rename_i b g;rcases List.mem_cons.1 h with rfl |h
   .exact⟨σ,by rw[g];rfl⟩
   .exact⟨by simp[(nX h).1],(nX h).2⟩
  .exact⟨by simp[(nX h).1],(nX h).2⟩
theorem qE{hp:Heap}:∀{l:List Nat}{s:Nat},s∈l->(look hp s).isSome=true->s∈present hp l
 |[],s,h,_=>by simp at h
 |x::r,s,h,hs=>by
  simp only[present];split
  .rcases List.mem_cons.1 h with rfl |h
   .simp
   .simp[qE h hs]
  .rename_i g;rcases List.mem_cons.1 h with rfl |h
   .rw[g]at hs;cases hs
   .exact qE h hs
theorem Rel.fresh(r:Rel w0 Pr M0 M β st a w){ss:List Nat}(hf:gI ss=true)(hl:∀s∈ss,(look st.heap s).isSome=true){d:Nat}{blk:aH}{w':World}{o:Nat}{v:AV} 
    (K:w.heap.size<=w'.heap.size)(N:w'.os=w.os)(J:w'.tape=w.tape)(O:w'.output=w.output)(g:∀k,k<w.heap.size->w'.heap[k]?=w.heap[k]?)(hb1:w.heap.size<=b)(R:b<w'.heap.size)
    (hB:∀(β':Nat->Option (Nat × Nat)) (h':Nat->Option aH),β' d=some (b,o)->h' d=some blk ->
      (∀(v:AV) (c:Value),AR w M β (look st.heap) v c->(∀s∈d::ss,AV.refers [s] v=false)->AR w' (bg M β ss) β' h' v c)->(∀(v:PV) (c:Value),VR w (bg M β ss) v c->VR w' (bg M β ss) v c) ->
      BR w' (bg M β ss) β' h' d blk/\AR w' (bg M β ss) β' h' v c) :
    Rel w0 Pr M0 (bg M β ss) (λx=>if x=d then some (b,o)else β x) (st.apply (some d) {val:=v,ny:=[(d,blk)],new:=[d],zK:=ss}) (a.put (some d) c) w':=by
  have F:=r.freeze (present st.heap [d]) ss hf hl;have E:∀b,bg M β ss b->b<w.heap.size:=F.dJ;have X:Rel w0 Pr M0 (bg M β ss) β (st.strike (present st.heap [d]++ss)) a w':=F.world K N J O (λk q _=>g k q) (λk n _ q _ I=>I.of_block (g k q)) (λ_ h=>h) (λ_ h=>.inl h);have z:look (st.strike (present st.heap [d]++ss)).heap d=none:=by
   rw[bY];by_cases Q:d∈present st.heap [d]++ss
   .grind
   .rw[if_neg Q];cases hd:look st.heap d with
    |none=>rfl
    |some x=>exact absurd (List.mem_append.2 (.inl (qE σ (by rw[hd];rfl)))) Q
  have B:∀(v:PV) (c:Value),VR w (bg M β ss) v c->VR w' (bg M β ss) v c:=λv c h=>h.mono λk q=>⟨q,g k (E k q)⟩
  have hkeep:∀(v:AV) (c:Value),AR w M β (look st.heap) v c->(∀s∈d::ss,AV.refers [s] v=false) ->
      AR w' (bg M β ss) (λx=>if x=d then some (b,o)else β x) (λx=>if x=d then some blk else look (st.strike (present st.heap [d]++ss)).heap x) v c:=by
    intro v c h I;have h1:=h.struck (M':=bg M β ss) (present st.heap [d]++ss) (λ_ h=>.inl h) λs H=>by
     rcases List.mem_append.1 H with H |H
     .have:=(nX H).1;grind
     grind
    refine h1.mono (λk q=>⟨q,g k (E k q)⟩) λs x _ G=>?_;have D:s≠d:=by rintro rfl;rw[z]at G;cases G
    refine⟨x,by simp only[if_neg D];exact G,Like.refl _,by simp only[if_neg D],λb1 Y n hb I=>I.of_block (g b1 ?_)⟩;exact(F.own s b1 Y (by rw[G];rfl) hb).2.1
  obtain⟨S,hB2⟩:=hB (λx=>if x=d then some (b,o)else β x) (λx=>if x=d then some blk else look (st.strike (present st.heap [d]++ss)).heap x) σ σ hkeep B;have W:=X.lay (s:=d) (blk:=blk) z (p:=some (b,o)) (λb' U e=>by
   cases e;refine⟨λQ=>?_,R,⟨.inl (by have:=r.size;omega),.inl (by have:=r.size;have:=w0.le';omega)⟩,λV U L Z=>?_⟩
   .grind
   .have:=(F.own V b U L Z).2.1;omega) S
  have hlk:look (put (st.strike (present st.heap [d]++ss)).heap d blk)=λx=>if x=d then some blk else look (st.strike (present st.heap [d]++ss)).heap x:=funext λx=>aZ _ _ _ _
  exact W.setEnv (some d) (v:=v) (c:=c) θ
end
end
section
variable {e t:TypeId}{hp:Heap}{s:Nat}{ss:List Nat}{o:Obj}{C:Array Value}{sa:Bool}{ks:List Kd}{v:AV}
def iU(hp hp':Heap):Prop:=∀s,ah<=s->∀blk',look hp' s=some blk'->∃blk,look hp s=some blk/\Like blk blk'
theorem Like.trans{x y z:aH}(p:Like x y)(g:Like y z):Like x z:=by cases x<;>cases y<;>cases z<;>simp only[Like]at *;all_goals grind
theorem iU.trans{a b c:Heap}(D:iU a b)(B:iU b c):iU a c:=by intro s g blk h;obtain⟨y,r,p⟩:=B s g blk h;obtain⟨x,z,q⟩:=D s g y r;exact⟨x,z,q.trans p⟩
theorem EP(x:Nat):∀(l:List (Nat × aH)) (hp:Heap) (b:aH),look (eH hp l) x=some b->look hp x=some b\/(x,b)∈l
 |[],hp,b,h=>.inl h
 |(s,c)::r,hp,b,h=>by
  rcases EP x r (put hp s c) b h with h |h
  .rw[aZ]at h;by_cases g:x=s
   .rw[if_pos g]at h;cases h;subst g;exact .inr σ
   .rw[if_neg g]at h;exact .inl h
  .exact .inr (by simp[h])
theorem zi(st:St)(ss:List Nat):iU st.heap (st.strike ss).heap:=by
 intro s _ blk h;rw[bY]at h;split at h
 .cases h
 .cases g:look st.heap s with
  |none=>rw[g]at h;cases h
  |some b=>rw[g]at h;cases h;exact⟨b,rfl,aH.xg _ _⟩
theorem xg(st:St)(ss:List Nat):iU st.heap (st.kill ss).heap:=by
 intro s _ blk h;cases ss with
 |nil=>exact⟨blk,h,Like.refl _⟩
 |cons x r=>
  simp only[St.kill,fE]at h;cases g:look st.heap s with
  |none=>rw[g]at h;cases h
  |some b=>rw[g]at h;cases h;exact⟨b,rfl,aH.xg _ _⟩
def Yi(hp:Heap)(l:List (Nat × aH)):Prop:=∀k b,(k,b)∈l->k<ah\/∃b0,look hp k=some b0/\Like b0 b
theorem fD{st:St}{d:Option Nat}{e:Eff}(h:Yi st.heap e.ny):iU st.heap (st.apply d e).heap:=by
 intro s p blk g;rcases EP s _ _ _ g with g |g
 .exact(zi st _).trans (xg _ e.cut) s p blk g
 .rcases h s blk g with h |h;all_goals omega
theorem Di:Yi hp []:=λ_ _ h=>by simp at h
theorem nN{b:aH}(h:s<ah\/∃b0,look hp s=some b0/\Like b0 b):Yi hp [(s,b)]:=by intro k c g;grind
structure aI (P:Program) (w0:Base) (Pr M0:Nat->Prop) (β:Nat->Option (Nat × Nat)) (st:St) (a:Act) (w:World) (d:Option Nat) (D:DT) (sem:Sem Next):Prop where
 sim:∀(α:Type) (k:Eff->Option α) (r:α),D.run k=some r->∃e nv c w' M' β',k e=some r/\sem.run P w=.ok nv w'/\(nv=.value c\/(nv=.skip/\c=undef)) /\
  (gI (e.new++e.zK)=true->Rel w0 Pr M0 M' β' (st.apply d e) (a.put d c) w'/\(∀s,ah<=s->β' s=β s)/\iU st.heap (st.apply d e).heap)
theorem jU:∀{x y:List Nat},gI (x++y)=true->gI x=true/\gI y=true
 |[],y,h=>⟨rfl,h⟩
 |s::x,y,h=>by simp only[List.cons_append,gI,qBa]at h ⊢;exact⟨⟨h.1,(jU h.2).1⟩,(jU h.2).2⟩
section
variable {P:Program}{T:Tab}{w0:Base}{Pr M0 M:Nat->Prop}{β:Nat->Option (Nat × Nat)}{st:St}{a:Act}{w:World}{d:Option Nat}
theorem aI.fail{sem:Sem Next}:aI P w0 Pr M0 β st a w d .fail sem:=⟨λ_ _ _ g=>by simp[DT.run]at g⟩
theorem aI.chk{c:Bool}{D:DT}{sem:Sem Next}(z:c=true->aI P w0 Pr M0 β st a w d D sem):aI P w0 Pr M0 β st a w d (Skm.chk c D) sem:=
 ⟨λα k r g=>by obtain⟨q,p⟩:=aby g;exact(z q).sim α k r p⟩
theorem aI.ret{e:Eff}{sem:Sem Next}{nv:Next}{c:Value}{w':World}{M':Nat->Prop}{β':Nat->Option (Nat × Nat)}(z:sem.run P w=.ok nv w')(r:nv=.value c\/(nv=.skip/\c=undef))
    (q:gI e.zK=true->Rel w0 Pr M0 M' β' (st.apply d e) (a.put d c) w')(h4:gI (e.new++e.zK)=true->∀s,ah<=s->β' s=β s:=by exact λ_ _ _=>rfl)
    (h5:gI (e.new++e.zK)=true->Yi st.heap e.ny:=by exact λg=>nN (.inl (lu g _ σ))):aI P w0 Pr M0 β st a w d (.ret e) sem:=
  ⟨λ_ _ _ p=>⟨e,nv,c,w',M',β',p,z,r,λg=>⟨q (jU g).2,h4 g,fD (h5 g)⟩⟩⟩
theorem rG{d:Nat}{p:Option (Nat × Nat)}(g:gI ([d]++ss)=true):∀s,ah<=s->(if s=d then p else β s)=β s:=by intro s q;have:=lu g d σ;grind
theorem aI.Qx(r:Rel w0 Pr M0 M β st a w){D:DT}{sem:Sem Value}(h:aj P w M β (look st.heap) D sem):aI P w0 Pr M0 β st a w d D (do pure (.value (<-sem))):=by refine⟨λα k q g=>?_⟩;obtain⟨v,c,B,z,p⟩:=h.sim α k q g;exact⟨_,.value c,c,w,M,β,B,by simp[p],.inl rfl,λ_=>⟨r.setEnv d z,λ_ _=>rfl,fD Di⟩⟩
theorem alloc_old{w:World}{k:Nat}(h:k<w.heap.size):(w.alloc o).heap[k]?=w.heap[k]?:=by show(w.heap.push o)[k]?=_;grind
theorem lC{w:World}:(w.alloc o).heap[w.heap.size]?=some o:=by show(w.heap.push o)[w.heap.size]?=_;simp
theorem qF(C:Array Value):Open C (0,0):=.inl rfl
theorem Rel.afq(r:Rel w0 Pr M0 M β st a w){d:Nat}{cs:List AV}(D:C.size=cs.length)(q:∀c∈cs,c.leaf=true)
    (F:∀(j:Nat) (c:AV),cs[j]?=some c->AR w M β (look st.heap) c (C.getD j undef))(B:∀c∈cs,AV.refers [d] c=false) :
    Rel w0 Pr M0 (bg M β []) (λx=>if x=d then some (w.heap.size,0)else β x) (st.apply (some d) {val:=.ptr d 0 0,ny:=[(d,.box cs)],new:=[d]}) (a.put (some d) (.pointer (some ⟨w.heap.size,0,none⟩))) (w.alloc (.cells C e)):=by
  refine r.fresh (ss:=[]) (b:=w.heap.size) (o:=0) rfl σ σ rfl rfl rfl (λk p=>alloc_old p) (qNr _) σ ?_;intro β' h' g z p _;refine⟨.box cs w.heap.size 0 C e (0,0) g lC ω (qF C) q λj c E=>?_,?_⟩
  .grind
  .have:=AR.ptrB (w:=w.alloc (.cells C e)) (M:=bg M β []) (β:=β') (h:=h') d 0 cs w.heap.size 0 z g;omega
theorem Rel.al9(r:Rel w0 Pr M0 M β st a w){d:Nat}{c0 c1:AV}(F:C.size=2)(D:c0.leaf=true)(B:c1.leaf=true)
    (I:AR w M β (look st.heap) c0 (C.getD 0 undef))(H:AR w M β (look st.heap) c1 (C.getD 1 undef))(z:AV.refers [d] c0=false)(q:AV.refers [d] c1=false) :
    Rel w0 Pr M0 (bg M β []) (λx=>if x=d then some (w.heap.size,0)else β x) (st.apply (some d) {val:=.ptr d 0 0,ny:=[(d,.tb t c0 c1)],new:=[d]}) (a.put (some d) (.pointer (some ⟨w.heap.size,0,none⟩))) (w.alloc (.cells C t)):=by
  refine r.fresh (ss:=[]) (b:=w.heap.size) (o:=0) rfl σ σ rfl rfl rfl (λk p=>alloc_old p) (qNr _) σ ?_;intro β' h' E G p _;refine⟨.tb t c0 c1 w.heap.size C (0,0) E lC F (qF C) D B (p _ _ I λs g=>by simp at g;subst g;exact z) (p _ _ H λs g=>by simp at g;subst g;exact q),?_⟩;exact AR.ptrT (w:=w.alloc (.cells C t)) (M:=bg M β []) (β:=β') (h:=h') d 0 t c0 c1 w.heap.size G E
theorem Rel.afr(r:Rel w0 Pr M0 M β st a w)(F:gI ss=true)(hlive:∀s∈ss,(look st.heap s).isSome=true){d:Nat}{xs:List PV}{fr:Nat × Nat}{len cap:Nat}
    (q:Open C fr)(B:∀x∈xs,aA sa ks x=true)(z:len<=xs.length)(g:len<=cap)(G:cap*ks.length<=C.size)(L:xs.length*ks.length<=C.size)
    (K:∀(i:Nat) (x:PV) (j:Nat) (c:PV),xs[i]?=some x->x.cells[j]?=some c->VR w (bg M β ss) c (C.getD (i*ks.length+j) undef)) :
    Rel w0 Pr M0 (bg M β ss) (λx=>if x=d then some (w.heap.size,0)else β x) (st.apply (some d) {val:=.slice d ks.length 0 len,ny:=[(d,.arr sa ks xs)],new:=[d],zK:=ss}) (a.put (some d) (.slice (some ⟨w.heap.size,0,none⟩) len cap)) (w.alloc (.cells C e fr)):=by
  refine r.fresh F hlive (b:=w.heap.size) (o:=0) σ rfl rfl rfl (λk D=>alloc_old D) (qNr _) σ ?_;intro β' h' p E _ I;refine⟨.arr sa ks xs w.heap.size 0 C e fr p lC ω q B λi x j c H J=>?_,?_⟩
  .grind
  .have:=AR.slice (w:=w.alloc (.cells C e fr)) (M:=bg M β ss) (β:=β') (h:=h') d 0 len sa ks xs w.heap.size 0 cap E ω p g (Room.mk lC (by rw[qNz,qNz];exact G) q);grind
theorem Rel.afs(r:Rel w0 Pr M0 M β st a w){d:Nat}(base:Option Addr:=none) :
    Rel w0 Pr M0 M (λx=>if x=d then none else β x) (st.apply (some d) {val:=.slice d ks.length 0 0,ny:=[(d,.arr sa ks [])],new:=[d]}) (a.put (some d) (.slice base 0 0)) w:=by
  have E:=r.strike (M':=M) (present st.heap [d]) (λ_ h=>h) (λ_ h=>.inl h);have g:look (st.strike (present st.heap [d])).heap d=none:=by
   rw[bY];by_cases z:d∈present st.heap [d]
   .grind
   .rw[if_neg z];cases hd:look st.heap d with
    |none=>rfl
    |some x=>exact absurd (qE σ (by rw[hd];rfl)) z
  have D:=E.lay (s:=d) (blk:=.arr sa ks []) g (p:=none) (λ_ _ e=>by cases e) (.gJ sa ks);have q:look (put (st.strike (present st.heap [d])).heap d (.arr sa ks [])) d=some (.arr sa ks []):=by rw[aZ];simp
  have B:=D.setEnv (some d) (v:=.slice d ks.length 0 0) (c:=.slice base 0 0) (.sliceE d 0 sa ks [] base q σ)
  have e:st.apply (some d) {val:=.slice d ks.length 0 0,ny:=[(d,.arr sa ks [])],new:=[d]} =
      {env:=Skm.setEnv (st.strike (present st.heap [d])).env (some d) (.slice d ks.length 0 0),heap:=put (st.strike (present st.heap [d])).heap d (.arr sa ks [])}:=by
    simp only[St.apply,List.append_nil];rfl
  rw[e];exact B
theorem xq{v:Value}{z:PV}(D:ofValue v=some z):∃cs:List PV,z.cells=cs/\v.cells.size=cs.length/\(∀c∈cs,c.leaf=true)/\∀(w:World) (M:Nat->Prop) (j:Nat) (c:PV),cs[j]?=some c->VR w M c (v.cells.getD j undef):=by
 refine⟨z.cells,rfl,?_⟩;have q:∀(w:World) (M:Nat->Prop),VR w M z v:=λw M=>yC D;have B:=q default (λ_=>False);cases z with
 |agg cs=>
  cases B with
  |agg _ vs E F r=>
   refine⟨by simpa[PV.cells,Value.cells] using E,F,λw M j c g=>?_⟩;have:=q w M;cases this with
   |agg _ _ _ _ r=>exact r j c g
 |_=>
  have p:=B.Iw rfl;refine⟨by rw[p];rfl,by simp[PV.cells,PV.leaf],λw M j c g=>?_⟩;rw[p];cases j with
  |zero=>simp[PV.cells]at g;subst g;simpa using q w M
  |succ j=>simp[PV.cells]at g
theorem acV(ok:bJ P T)(r:Rel w0 Pr M0 M β st a w):aI P w0 Pr M0 β st a w d (Lm T d t) (do pure (.value (<-Instr.alloc t true (.tuple #[])))):=by
 unfold Lm;split
 .rename_i d z K;obtain⟨i,v,H,G,Q⟩:=ok.zero K;obtain⟨cs,J,I,R,F⟩:=xq Q;have hcells:(AV.p z).cells=cs.map .p:=by rw[<-J];cases z<;>rfl
  have B:∀c∈cs.map AV.p,AV.refers [d] c=false:=by intro c E;obtain⟨y,_,rfl⟩:=List.mem_map.1 E;rfl
  have N:=r.afq (d:=d) (cs:=cs.map .p) (C:=v.cells) (e:=t) (by simpa using I) (λc E=>by
      obtain⟨y,q,rfl⟩:=List.mem_map.1 E;exact R y q) (λj c g=>by
      rw[List.getElem?_map]at g;cases q:cs[j]? with
      |none=>rw[q]at g;simp at g
      |some y=>rw[q]at g;simp at g;subst g;exact .p _ _ (F _ _ j y q)) B
  unfold ahS;split
  .obtain rfl:cs=[.zG,.nil]:=J.symm;have O:v.cells.size=2:=I;have L:=r.al9 (d:=d) (t:=t) (c0:=.p .zG) (c1:=.p .nil) (C:=v.cells) O rfl rfl (.p _ _ (F _ _ 0 _ rfl)) (.p _ _ (F _ _ 1 _ rfl)) rfl rfl;exact aI.ret (nv:=.value (.pointer (some ⟨w.heap.size,0,none⟩))) (by simp[Instr.alloc,mM H G,newVar,newRow]) (.inl rfl) (λ_=>L) (λD=>rG D)
  .rw[hcells];exact aI.ret (nv:=.value (.pointer (some ⟨w.heap.size,0,none⟩))) (by simp[Instr.alloc,mM H G,newVar,newRow]) (.inl rfl) (λ_=>N) (λD=>rG D)
 .exact aI.fail
theorem V6(h:AV.refers [s] v=false):∀c∈v.cells,AV.refers [s] c=false:=by
 have any:∀(cs:List AV),AV.fU [s] cs=false->∀c∈cs,AV.refers [s] c=false:=by
  intro cs;induction cs with
  |nil=>intro _ c g;simp at g
  |cons x r q=>grind[AV.fU,Bool.or_eq_false_iff]
 intro c g;cases v with
 |p v=>
  have:∃y,c=.p y:=by cases v<;>simp[AV.cells]at g<;>first |exact⟨_,g⟩ |(obtain⟨y,_,rfl⟩:=g;exact⟨y,rfl⟩)
  obtain⟨y,rfl⟩:=this;rfl
 |agg cs=>simp only[AV.cells]at g;exact any cs (by simpa[AV.refers] using h) c g
 |_=>simp[AV.cells]at g;subst g;exact h
theorem ahm(r:Rel w0 Pr M0 M β st a w){c:Value}(z:AR w M β (look st.heap) v c):aI P w0 Pr M0 β st a w d (VI d v) (do pure (.value (<-Instr.box t c))):=by
 unfold VI;split
 .rename_i d;refine aI.chk λg=>?_;simp only[qBa,qBb]at g;obtain⟨F,E⟩:=z.cells g.1;have B:=r.afq (d:=d) (cs:=v.cells) (C:=c.cells) (e:=t) F (λx q=>by obtain⟨j,p⟩:=List.mem_iff_getElem?.1 q;grind) (λj x p=>(E j x p).1) (V6 g.2);exact aI.ret (nv:=.value (.pointer (some ⟨w.heap.size,0,none⟩))) (by simp[Instr.box,newVar,newRow]) (.inl rfl) (λ_=>B) (λD=>rG D)
 .exact aI.fail
end
end
section
variable {i j len n:Nat}{h':Nat -> Option aH}{t:TypeId}{ps:List (Nat × AV)}{cs:Array (Nat × Value)}
section
variable {P:Program}{T:Tab}{w0:Base}{Pr M0 M:Nat->Prop}{β:Nat->Option (Nat × Nat)}{st:St}{a:Act}{w:World}{d:Option Nat}
theorem yF{v:Value}{z:PV}{sa:Bool}{ks:List Kd}(g:ofValue v=some z)(p:aA sa ks z=true):v.cells.size=ks.length:=by obtain⟨cs,r,q,_,_⟩:=xq g;rw[q,<-r];exact bV p
theorem Yj(g:j<n):(i*n+j)%n=j:=by rw[Nat.mul_comm,Nat.mul_add_mod,Nat.mod_eq_of_lt g]
theorem Gq{g:Array Value}{k:Nat}(q:g.size=k)(hi:i<n)(r:j<k):((Array.range (n*k)).map (g[·%g.size]!)).getD (i*k+j) undef=g.getD j undef:=by
 have p:i*k+j<n*k:=by have:(i+1)*k<=n*k:=Nat.mul_le_mul_right _ hi;grind
 have z:j<g.size:=ω
 simp only[qAb,Array.getElem?_map,Array.getElem?_range,p,if_true,Option.map_some,Option.getD_some,q,Yj r];grind
theorem Qy(Y:∀s b,look st.heap s=some b->BR w M β (look st.heap) s b){h':Nat->Option aH}(B:∀s b,h' s=some b->look st.heap s=some b){sa:Bool}{ks:List Kd} :
    ∀(ps:List (Nat × AV)) (I:List (Nat × Value)) (xs:List PV) (ss:List Nat) (C:Array Value) (g:List PV) (z:List Nat),
    LJ w M β (look st.heap) ps I->C.size=xs.length*ks.length->(∀x∈xs,aA sa ks x=true)->(∀s∈ss,(look st.heap s).isSome=true) ->
    (∀(i:Nat) (x:PV) (j:Nat) (c:PV),xs[i]?=some x->x.cells[j]?=some c->VR w (bg M β ss) c (C.getD (i*ks.length+j) undef)) ->
    Ui h' sa ks xs ss ps=some (g,z) ->
    ∃C',Instr.fill (λi=>some (i*ks.length,ks.length)) C I=some C'/\C'.size=g.length*ks.length/\g.length=xs.length/\(∀x∈g,aA sa ks x=true)/\(∀s∈z,(look st.heap s).isSome=true) /\
     (∀(i:Nat) (x:PV) (j:Nat) (c:PV),g[i]?=some x->x.cells[j]?=some c->VR w (bg M β z) c (C'.getD (i*ks.length+j) undef))
  |[],I,xs,ss,C,g,z,hp,hC,G,hl,hc,hf=>by
   have:I=[]:=by have:=hp.1;simpa using this.symm
   subst this;simp[Ui]at hf;obtain⟨rfl,rfl⟩:=hf;exact⟨C,rfl,hC,rfl,G,hl,hc⟩
  |(n,v)::r,[],xs,ss,C,g,z,hp,hC,G,hl,hc,hf=>by have:=hp.1;simp at this
  |(n,v)::r,(m,c)::cr,xs,ss,C,g,z,hp,hC,G,hl,hc,hf=>by
   have hp0:=hp.2 0 (n,v) (m,c) σ σ;simp only at hp0;obtain⟨rfl,hv⟩:=hp0;simp only[Ui]at hf;cases hd:deep h' v with
   |none=>rw[hd]at hf;cases hf
   |some p=>
    obtain⟨x,X⟩:=p;rw[hd]at hf;simp only at hf;cases O:(aA sa ks x&&Nat.blt n xs.length)with
    |false=>rw[O]at hf;cases hf
    |true=>
     rw[O]at hf;simp only[qCt]at hf;simp only[qBa]at O;obtain⟨N,H⟩:=O;have H:n<xs.length:=(Nat.blt_eq▸H:_);obtain⟨W,d2⟩:=Gp (λs b h=>Y s b (B s b h)) B hd hv;have J:=bV N;have L:c.cells.size=ks.length/\∀(j:Nat) (y:PV),x.cells[j]?=some y->VR w (bg M β X) y (c.cells.getD j undef):=by
      cases x with
      |agg cs=>
       cases W with
       |agg _ vs hn hl2 V=>exact⟨by simpa[Value.cells,PV.cells] using hn.trans J,λj y E=>V j y E⟩
      |_=>
       have e:=W.Iw rfl;refine⟨by rw[e];simpa[PV.cells] using J,λj y E=>?_⟩;rw[e];cases j with
       |zero=>simp[PV.cells]at E;subst E;simpa using W
       |succ j=>simp[PV.cells]at E
     have hroom:n*ks.length+ks.length<=C.size:=by rw[hC,<-Nat.succ_mul];exact Nat.mul_le_mul_right _ H
     obtain⟨f1,f2⟩:=foldl_set c.cells.toList (n*ks.length) 0 C (by simp;omega)
     obtain⟨C',k1,Q⟩:=Qy Y B r cr (xs.set n x) (ss++X) ((c.cells.toList.zipIdx 0).foldl (λcs (Z:Value × Nat)=>cs.setIfInBounds (n*ks.length+Z.2) Z.1) C) g z
      ⟨by simpa using hp.1,λi p q h1 h2=>hp.2 (i+1) p q (by simpa using h1) (by simpa using h2)⟩ (by rw[f1];simpa using hC)
      (λy F=>by
        rcases List.mem_or_eq_of_mem_set F with F |rfl
        .exact G y F
        .exact N)
      (λs D=>by
        rcases List.mem_append.1 D with D |D
        .exact hl s D
        .exact d2 s D)
      (λi y j c' F E=>by
        rw[f2];simp only[Nat.add_zero,Array.length_toList,Nat.sub_zero,L.1];by_cases K:i=n
        .subst K;rw[List.getElem?_set_self H]at F;cases F;have S:j<ks.length:=by have:=(qLa.1 E).1;omega
         rw[if_pos ω];have e:i*ks.length+j-i*ks.length=j:=ω
         rw[e,Array.toArray_toList];exact(L.2 j c' E).more λs G=>by simp[G]
        .rw[List.getElem?_set_ne (λe=>K e.symm)]at F;have S:j<ks.length:=by have:=(qLa.1 E).1;have:=bV (G y (qLe F));omega
         rw[if_neg ?_]
         .exact(hc i y j c' F E).more λs G=>by simp[G]
         .rcases Nat.lt_or_gt_of_ne K with R |U
          .have:(i+1)*ks.length<=n*ks.length:=Nat.mul_le_mul_right _ R;rw[Nat.add_mul]at this;omega
          .have:(n+1)*ks.length<=i*ks.length:=Nat.mul_le_mul_right _ U;rw[Nat.add_mul]at this;omega) hf
     refine⟨C',?_,Q.1,by rw[Q.2.1];simp,Q.2.2⟩;rw[<-k1];simp only[Instr.fill];rw[if_neg (by simp;omega)];rw[<-Array.foldl_toList];simp[Array.toList_zipIdx]
theorem Qz(ok:bJ P T)(r:Rel w0 Pr M0 M β st a w)(B:∀s b,h' s=some b->look st.heap s=some b) 
    (hp:LJ w M β (look st.heap) ps cs.toList):aI P w0 Pr M0 β st a w d (yj T h' d t len ps) (do pure (.value (<-Instr.buildSlice t len cs))):=by
  unfold yj;split
  .rename_i d e F;have F:=ok.und F;split
   .rename_i z n hz hn;obtain⟨i,v,J,h2,S⟩:=ok.zero hz;obtain⟨i',q1,X⟩:=ok.size hn;rw[J]at q1;cases q1;refine aI.chk λR=>?_;simp only[qBa,beq_iff_eq]at R;obtain⟨⟨b1,L⟩,U⟩:=R;have U:=Nat.le_of_ble_eq_true U;subst b1;split
    .rename_i xs ss hf;have E:=yF S L;obtain⟨zc,W,z2,z3,V⟩:=xq S
     have hstart:∀(i:Nat) (x:PV) (j:Nat) (c:PV),(List.replicate len z)[i]?=some x->x.cells[j]?=some c ->
         VR w (bg M β []) c (((Array.range (len*(ay T e).2.length)).map (v.cells[·%v.cells.size]!)).getD (i*(ay T e).2.length+j) undef):=by
       intro i x j c g H;have hi:=(qLa.1 g).1;simp at hi;rw[List.getElem?_replicate,if_pos hi]at g;cases g;have D:=(qLa.1 H).1;rw[bV L]at D;rw[Gq E hi D];exact V _ _ j c (by rw[<-W];exact H)
     obtain⟨C',Q,k2,O,Z,Y,k6⟩:=Qy (w:=w) (M:=M) (β:=β) (st:=st) r.heap B ps cs.toList (List.replicate len z) [] _ xs ss hp σ (λx g=>by simp at g;rw[g.2];exact L) σ hstart hf;simp at O;have run:(Instr.buildSlice t len cs).run P w=.ok (.slice (some ⟨w.heap.size,0,none⟩) len len) (w.alloc (.cells C' e)):=by
      simp only[Instr.buildSlice,Sem.run_bind,aW F,qRa,fZ J,X];rw[if_neg ω];by_cases K:len*(ay T e).2.length=0
      .rw[if_pos K];simp only[Sem.run_bind,Sem.run_pure,qRa];have e0:(Array.range (len*(ay T e).2.length)).map ((#[]:Array Value)[·%(#[]:Array Value).size]!)=(Array.range (len*(ay T e).2.length)).map (v.cells[·%v.cells.size]!):=by rw[K];simp
       rw[e0,Q];simp[newRow]
      .rw[if_neg K];simp only[Sem.run_bind,mM J h2,Sem.run_pure,qRa,Q];simp[newRow]
     refine⟨λα k q G=>?_⟩;refine⟨_,.value (.slice (some ⟨w.heap.size,0,none⟩) len len),.slice (some ⟨w.heap.size,0,none⟩) len len,w.alloc (.cells C' e),bg M β ss,λx=>if x=d then some (w.heap.size,0)else β x,G,by simp[run],.inl rfl,λp=>⟨?_,rG p,fD (nN (.inl (lu p _ σ)))⟩⟩;have I:=(jU p).2;have:=r.fresh (d:=d) (blk:=.arr (ay T e).1 (ay T e).2 xs) (v:=.slice d (ay T e).2.length 0 len) (c:=.slice (some ⟨w.heap.size,0,none⟩) len len) (w':=w.alloc (.cells C' e)) (b:=w.heap.size) (o:=0) I Y σ rfl rfl rfl (λk G=>alloc_old G) (qNr _) σ ?_
     .exact this
     .intro β' h' N hh _ hv;refine⟨.arr _ _ xs w.heap.size 0 C' e (0,0) N lC ω (qF _) Z λi x j c g H=>?_,?_⟩
      .grind
      .have:=AR.slice (w:=w.alloc (.cells C' e)) (M:=bg M β ss) (β:=β') (h:=h') d 0 len _ _ xs w.heap.size 0 len hh ω N (qNr _) (Room.mk (fr:=(0,0)) lC (by rw[qNz,qNz,k2,O];exact qNr _) (qF _));grind
    .exact aI.fail
   .exact aI.fail
  .exact aI.fail
theorem Sj{J:Bool}(ok:bJ P T)(r:Rel w0 Pr M0 M β st a w)(G:∀s b,h' s=some b->look st.heap s=some b) 
    (hp:LJ w M β (look st.heap) ps cs.toList):aI P w0 Pr M0 β st a w d (zN T J h' t len ps) (do pure (.value (<-Instr.buildSlice t len cs))):=by
  unfold zN;split
  .rename_i e N;have N:=ok.und N;split
   .rename_i z n hz hn;obtain⟨i,v,I,h2,V⟩:=ok.zero hz;obtain⟨i',q1,q2⟩:=ok.size hn;rw[I]at q1;cases q1;refine aI.chk λD=>?_;simp only[qBa,beq_iff_eq]at D;obtain⟨⟨b1,R⟩,W⟩:=D;have W:=Nat.le_of_ble_eq_true W;subst b1;split
    .rename_i xs hf;have L:=yF V R;obtain⟨zc,Y,z2,z3,X⟩:=xq V
     have hstart:∀(i:Nat) (x:PV) (j:Nat) (c:PV),(List.replicate len z)[i]?=some x->x.cells[j]?=some c ->
         VR w (bg M β []) c (((Array.range (len*(ay T e).2.length)).map (v.cells[·%v.cells.size]!)).getD (i*(ay T e).2.length+j) undef):=by
       intro i x j c g q;have hi:=(qLa.1 g).1;simp at hi;rw[List.getElem?_replicate,if_pos hi]at g;cases g;have B:=(qLa.1 q).1;rw[bV R]at B;rw[Gq L hi B];exact X _ _ j c (by rw[<-Y];exact q)
     obtain⟨C',U,k2,E,K,k5,S⟩:=Qy (w:=w) (M:=M) (β:=β) (st:=st) r.heap G ps cs.toList (List.replicate len z) [] _ xs [] hp σ (λx g=>by simp at g;rw[g.2];exact R) σ hstart hf;simp at E;have run:(Instr.buildSlice t len cs).run P w=.ok (.slice (some ⟨w.heap.size,0,none⟩) len len) (w.alloc (.cells C' e)):=by
      simp only[Instr.buildSlice,Sem.run_bind,aW N,qRa,fZ I,q2];rw[if_neg ω];by_cases Q:len*(ay T e).2.length=0
      .rw[if_pos Q];simp only[Sem.run_bind,Sem.run_pure,qRa];have e0:(Array.range (len*(ay T e).2.length)).map ((#[]:Array Value)[·%(#[]:Array Value).size]!)=(Array.range (len*(ay T e).2.length)).map (v.cells[·%v.cells.size]!):=by rw[Q];simp
       rw[e0,U];simp[newRow]
      .rw[if_neg Q];simp only[Sem.run_bind,mM I h2,Sem.run_pure,qRa,U];simp[newRow]
     have H:∀(c:PV) (v:Value),VR w (bg M β []) c v->VR w M c v:=λc v h=>h.mono λb D=>⟨D.elim id (λ⟨s,o,I,_⟩=>absurd I σ),rfl⟩;have Z:Rel w0 Pr M0 (λb=>M b\/b=w.heap.size) β st a (w.alloc (.cells C' e)):=r.world σ rfl rfl rfl (λb D _=>alloc_old D) (λb n hb1 O _ hr=>hr.of_block (alloc_old O)) (λb h=>.inl h) (λb h=>by
      rcases h with h |rfl
      .exact .inl h
      .exact .inr ⟨qNr _,σ⟩)
     have F:∀(c:PV) (v:Value),VR w M c v->VR (w.alloc (.cells C' e)) (λb=>M b\/b=w.heap.size) c v:=λc v h=>h.mono λb D=>⟨.inl D,alloc_old (r.dJ b D)⟩;have WS:VR (w.alloc (.cells C' e)) (λb=>M b\/b=w.heap.size) (bif J then .list (ay T e).1 (ay T e).2 xs else .full (ay T e).1 (ay T e).2 xs) (.slice (some ⟨w.heap.size,0,none⟩) len len):=by
      have hcell:∀(i:Nat) (x:PV) (j:Nat) (c:PV),xs[i]?=some x->x.cells[j]?=some c->i*(ay T e).2.length+j<C'.size:=by intro i x j c g q;have hi:=(qLa.1 g).1;have B:=(qLa.1 q).1;rw[bV (K x (qLe g))]at B;have:(i+1)*(ay T e).2.length<=xs.length*(ay T e).2.length:=Nat.mul_le_mul_right _ hi;rw[Nat.add_mul]at this;rw[k2,E];rw[E]at this;omega
      cases J with
      |false=>simp only[qCf];have:=VR.full (w:=w.alloc (.cells C' e)) (M:=λb=>M b\/b=w.heap.size) (ay T e).1 (ay T e).2 xs w.heap.size 0 (λi j=>C'.getD (i*(ay T e).2.length+j) undef) (.inr rfl) (λi x j c g q=>by rw[qNz];exact pY lC (hcell i x j c g q)) (λi x j c g q=>F _ _ (H _ _ (S i x j c g q))) K;rw[E]at this;exact this
      |true=>simp only[qCt];have:=VR.list (w:=w.alloc (.cells C' e)) (M:=λb=>M b\/b=w.heap.size) (ay T e).1 (ay T e).2 xs w.heap.size 0 xs.length (λi j=>C'.getD (i*(ay T e).2.length+j) undef) (.inr rfl) (qNr _) (λi x j c g q=>by rw[qNz];exact pY lC (hcell i x j c g q)) (λi x j c g q=>F _ _ (H _ _ (S i x j c g q))) K;rw[E]at this;exact this
     exact aI.ret (c:=.slice (some ⟨w.heap.size,0,none⟩) len len) (M':=λb=>M b\/b=w.heap.size) (β':=β) (by simp[run]) (.inl rfl) (λ_=>Z.setEnv d (.p _ _ WS)) (λ_ _ _=>rfl) (λ_=>Di)
    .exact aI.fail
   .exact aI.fail
  .exact aI.fail
end
end
section
variable {y:AV}{ks:List Kd}{xs:List PV}{c:Value}
section
variable {P:Program}{T:Tab}{w0:Base}{Pr M0 M:Nat->Prop}{β:Nat->Option (Nat × Nat)}{st:St}{a:Act}{w:World}{d:Option Nat}
theorem Sl(ok:bJ P T)(r:Rel w0 Pr M0 M β st a w){t:TypeId}{x:AV}{c1 K:Value}(g:AR w M β (look st.heap) x c1)(X:AR w M β (look st.heap) y K) :
    aI P w0 Pr M0 β st a w d (zS T d t x y) (do pure (.value (<-Instr.makeSlice t c1 K))):=by
  unfold zS;split
  .rename_i d e U l S c E;have E:=ok.und E;rw[g.BI,X.BI];split
   .rename_i z n by_ W Z F
    obtain⟨i,v,p,h2,J⟩:=ok.zero W;obtain⟨V,q1,Q⟩:=ok.size Z;rw[p]at q1;cases q1;obtain⟨V,q1,q3⟩:=ok.bytes F
    rw[p]at q1;cases q1;refine aI.chk λI=>aI.chk λq=>?_;simp only[qBa,beq_iff_eq,qDa]at I q;obtain⟨⟨b1,H⟩,L⟩:=I;have L:=Nat.le_of_ble_eq_true L;obtain⟨l0,l1,R⟩:=q;subst b1;have D:=yF J H;obtain⟨zc,z1,z2,z3,z4⟩:=xq J;have N:IntKind.i64.wrap l=l:=IntWalk.i64_in _ ω;have O:IntKind.i64.wrap c=c:=IntWalk.i64_in _ ω;have big:¬(2:Int)^48<(i.bytes:Int)*c:=by have p:(i.bytes:Int)*c<=16384*2147483648:=Int.mul_le_mul ω R ω ω;omega
    have run:(Instr.makeSlice t (.int U l) (.int S c)).run P w=.ok (.slice (some ⟨w.heap.size,0,none⟩) l.toNat c.toNat) (w.alloc (.cells ((Array.range (c.toNat*(ay T e).2.length)).map (v.cells[·%v.cells.size]!)) e)):=by
     simp only[Instr.makeSlice,Sem.run_bind,aW E,qRa,asInt,asIntOf,Sem.run_pure,pO p,N,O];have c1:(decide (c<0)||decide ((i.bytes:Int)*c > 2^48)||decide (l<0)||decide (l > c))=false:=θ
     rw[if_neg (by simpa using c1)];simp only[Sem.run_bind,run_askRoom,qRa,fZ p,Q];by_cases G:c.toNat*(ay T e).2.length=0
     .rw[if_pos G];have e0:(Array.range (c.toNat*(ay T e).2.length)).map ((#[]:Array Value)[·%(#[]:Array Value).size]!)=(Array.range (c.toNat*(ay T e).2.length)).map (v.cells[·%v.cells.size]!):=by rw[G];simp
      simp only[Sem.run_pure,qRa,newRow,Sem.run_bind,run_newObj,e0];rfl
     .rw[if_neg G];simp only[Sem.run_bind,mM p h2,Sem.run_pure,qRa];simp[newRow]
    have Y:=r.afr (ss:=[]) rfl σ (d:=d) (sa:=(ay T e).1) (ks:=(ay T e).2) (xs:=List.replicate l.toNat z)
     (C:=(Array.range (c.toNat*(ay T e).2.length)).map (v.cells[·%v.cells.size]!)) (e:=e) (fr:=(0,0)) (len:=l.toNat) (cap:=c.toNat) (qF _)
     (λx g=>by simp at g;rw[g.2];exact H) σ ω σ (by simp;exact Nat.mul_le_mul_right _ ω)
     (λi x j c' g hj=>by
       have hi:i<l.toNat:=by simpa using (qLa.1 g).1
       rw[List.getElem?_replicate,if_pos hi]at g;cases g;have B:=(qLa.1 hj).1;rw[bV H]at B;rw[Gq D ω B];grind)
    exact aI.ret (nv:=.value (.slice (some ⟨w.heap.size,0,none⟩) l.toNat c.toNat)) (by simp[run]) (.inl rfl) (λ_=>Y) (λhf=>rG hf)
   .exact aI.fail
  .exact aI.fail
theorem acW{b o n k:Nat}{f:Nat->Nat->Value}(B:∀i j,i<n->j<k->w.cell? ⟨b,o+i*k+j,none⟩=some (f i j)) :
    ∃C:Array Value,(loadCells ⟨b,o,none⟩ (n*k)).run P w=.ok C w/\C.size=n*k/\∀i j,i<n->j<k->C.getD (i*k+j) undef=f i j:=by
  refine⟨_,wK (f:=λq=>f (q / k) (q%k)) ?_,σ,?_⟩
  .intro q p;have r:0<k:=Nat.pos_of_ne_zero λe=>by subst e;simp at p
   have E:q / k<n:=(Nat.div_lt_iff_lt_mul r).2 p;have D:q%k<k:=Nat.mod_lt _ r;have:=B (q / k) (q%k) E D;have e:q / k*k+q%k=q:=by rw[Nat.mul_comm];exact Nat.div_add_mod q k
   grind
  .intro i j hi z;have g:i*k+j<n*k:=by have:(i+1)*k<=n*k:=Nat.mul_le_mul_right _ hi;grind
   unfold Array.getD;rw[dif_pos (by simpa using g)];simp only[Array.getInternal_eq_getElem,Array.getElem_ofFn];congr 1
   .rw[Nat.mul_comm,Nat.mul_add_div ω];simp_all
   .exact Yj z
def QA(P:Program)(w:World)(M:Nat->Prop)(a:Bool)(ks:List Kd)(m:Nat)(ys:List PV)(c:Value):Prop:=
 (Builtin.lenOf c).run P w=.ok m w/\ys.length=m/\(∀y∈ys,aA a ks y=true)/\∀n,n<=m ->
   ∃C:Array Value,(Builtin.firstCells ks.length n c).run P w=.ok C w/\C.size=n*ks.length/\∀(i:Nat) (x:PV) (j:Nat) (cc:PV),i<n->ys[i]?=some x->x.cells[j]?=some cc->VR w M cc (C.getD (i*ks.length+j) undef)
theorem BJ{a:Bool}(b o cap:Nat)(f:Nat->Nat->Value)(H:∀(i:Nat) (x:PV) (j:Nat) (c:PV),xs[i]?=some x->x.cells[j]?=some c->w.cell? ⟨b,o+i*ks.length+j,none⟩=some (f i j))
    (z:∀(i:Nat) (x:PV) (j:Nat) (c:PV),xs[i]?=some x->x.cells[j]?=some c->VR w M c (f i j))(q:∀x∈xs,aA a ks x=true):QA P w M a ks xs.length xs (.slice (some ⟨b,o,none⟩) xs.length cap):=by
  refine⟨by simp[Builtin.lenOf],rfl,q,λn G=>?_⟩;obtain⟨C,E,D,B⟩:=acW (P:=P) (w:=w) (b:=b) (o:=o) (n:=n) (k:=ks.length) (f:=f) (λi j hi p=>by have g:xs[i]?=some xs[i]:=qLd ω;have r:=bV (q _ (qLe g));grind);refine⟨C,by simpa[Builtin.firstCells] using E,D,λi x j F hi g p=>?_⟩;have r:=bV (q _ (qLe g));have:=(qLa.1 p).1;rw[B i j hi ω];exact z i x j F g p
theorem nY{a:Bool}(base:Option Addr)(cap:Nat):QA P w M a ks 0 [] (.slice base 0 cap):=by
 refine⟨by simp[Builtin.lenOf],rfl,σ,λn g=>?_⟩;have:n=0:=by simpa using g
 subst this;refine⟨#[],?_,σ,λi x j p hi=>ω⟩;cases base<;>simp[Builtin.firstCells,loadCells,loadCellsFrom]
theorem LM{v:PV}{a:Bool}(r:v=.list a ks xs\/v=.full a ks xs)(h:VR w M v c):QA P w M a ks xs.length xs c:=by
 rcases r with rfl|rfl
 .cases h with
  |list _ _ _ b o cap f q1 z q p g=>exact BJ b o cap f q p g
  |iM _ _ base cap=>exact nY base cap
 .cases h with
  |full _ _ _ b o f q1 q p g=>exact BJ b o _ f q p g
  |JO _ _ base=>exact nY base 0
theorem ER(r:Rel w0 Pr M0 M β st a w){h':Nat->Option aH}(I:∀s b,h' s=some b->look st.heap s=some b){s2:Option (Bool × List Kd)}{m:Nat}{ys:List PV}
    (E:AR w M β (look st.heap) y c)(D:Ya h' y=some (s2,m,ys)){sa:Bool}(hsame:EG s2 sa ks=true):QA P w M sa ks m ys c:=by
  have same:∀(a':Bool) (g:List Kd),EG (some (a',g)) sa ks=true->a'=sa/\g=ks:=by intro a' g h;simp only[EG,qBa,beq_iff_eq]at h;exact⟨h.1.symm,(Kd.oG _ _ h.2).symm⟩
  unfold Ya at D;split at D
  .rename_i s z off len;split at D
   .rename_i a' g xs H;have H:=I _ _ H;cases D;obtain⟨rfl,rfl⟩:=same _ _ hsame;cases E with
    |slice _ _ _ a1 S Q b o cap J K R p4 p5=>
     rw[H]at J;cases J;have L:((xs.drop off).take m).length=m:=by simp;omega
     cases r.heap s _ H with
     |gJ=>
      have:m=0:=by simp at K;omega
      subst this;simpa using nY (P:=P) (w:=w) (M:=M) (a:=a') (ks:=g) (some ⟨b,o+off*g.length,none⟩) cap
     |arr _ _ _ b' o' C e fr N V Y g4 U g6=>
      rw[R]at N;cases N
      have:=BJ (P:=P) (w:=w) (M:=M) (a:=a') (ks:=g) (xs:=(xs.drop off).take m) b (o+off*g.length) cap (λi j=>C.getD (o+(off+i)*g.length+j) undef)
       (λi x j c B G=>by
         have B:=wJ B;have hi:=(qLa.1 B).1;have hj':j<g.length:=by have:=bV (U x (qLe B));grind
         have X:(off+i+1)*g.length<=xs.length*g.length:=Nat.mul_le_mul_right _ hi;rw[Nat.add_mul]at X;have h2:o+off*g.length+i*g.length+j=o+(off+i)*g.length+j:=by rw[Nat.add_mul];omega
         rw[h2];exact pY V ω)
       (λi x j c B G=>g6 _ x j c (wJ B) G) (λx B=>U x (List.mem_of_mem_drop (List.mem_of_mem_take B)))
      grind
    |sliceE _ _ a1 S Q base J K=>simpa using nY (P:=P) (w:=w) (M:=M) (a:=a') (ks:=g) base 0
   .cases D
  .rename_i s off len;split at D
   .rename_i cs H;have H:=I _ _ H;split at D
    .rename_i kd vs O;cases D;obtain⟨rfl,rfl⟩:=same _ _ hsame;obtain⟨e1,Z⟩:=Qv O;subst e1;cases E with
     |bslice _ _ _ W b o cap J K R p4=>
      rw[H]at J;cases J;simp only[qLm]at K;have L:((vs.drop off).take m).length=m:=by simp;omega
      have leaf:∀v∈vs,v.cells=[v]:=λv hv=>by have:=iG (Z v hv);cases v<;>first |rfl |simp[PV.leaf]at this
      cases r.heap s _ H with
      |box _ b' o' C e fr N V Y g4 U g6=>
       rw[R]at N;cases N;simp only[qLm]at Y
       have:=BJ (P:=P) (w:=w) (M:=M) (a:=false) (ks:=[kd]) (xs:=(vs.drop off).take m) b (o+off) cap (λi j=>C.getD (o+(off+i)) undef)
        (λi x j c B G=>by
          have B:=wJ B;have hi:=(qLa.1 B).1;rw[leaf x (qLe B)]at G;have F:j=0:=θ
          subst F;have:=pY (w:=w) V (i:=o+(off+i)) ω;grind)
        (λi x j c B G=>by
          have B:=wJ B;rw[leaf x (qLe B)]at G;have F:j=0:=θ
          subst F;simp at G;subst G;have:=g6 (off+i) (.p x) (by simp[B]);cases this;assumption)
        (λx B=>by simpa[aA] using Z x (List.mem_of_mem_drop (List.mem_of_mem_take B)))
       grind
     |bsliceE _ _ W base J K=>simpa using nY (P:=P) (w:=w) (M:=M) (a:=false) (ks:=[kd]) base 0
    .cases D
   .cases D
  .cases D;obtain⟨rfl,rfl⟩:=same _ _ hsame;cases E with
   |p _ _ E=>exact LM (.inl rfl) E
  .cases D;obtain⟨rfl,rfl⟩:=same _ _ hsame;cases E with
   |p _ _ E=>exact LM (.inr rfl) E
  .cases D;cases E with
   |p _ _ E=>cases E with
   |nil=>exact nY none 0
  .rename_i s;cases D;obtain⟨rfl,rfl⟩:=same _ _ hsame;rw[E.Um];refine⟨by simp[Builtin.lenOf],σ,?_,?_⟩
   .intro y E;obtain⟨b,_,rfl⟩:=List.mem_map.1 E;rfl
   .intro n hn;refine⟨(s.extract 0 n).data.map λb=>.int .u8 b.toNat,rfl,?_,?_⟩
    .simp_all
    .intro i x j cc hi B G;rw[List.getElem?_map]at B;cases O:s.data.toList[i]? with
     |none=>rw[O]at B;simp at B
     |some q=>
      rw[O]at B;simp at B;subst B;have F:j=0:=by grind[PV.cells]
      subst F;simp[PV.cells]at G;subst G;have:((s.extract 0 n).data.map λb=>Value.int .u8 b.toNat).getD (i*1+0) undef=.int .u8 q.toNat:=by
       have X:(s.extract 0 n).data[i]?=some q:=by grind[ByteArray.data_extract,Array.getElem?_extract]
       simp_all
      show VR w M _ (((s.extract 0 n).data.map λb=>Value.int .u8 b.toNat).getD (i*1+0) undef);rw[this];exact .int _ _
  .cases D
end
end
section
section
variable {P:Program}{T:Tab}{w0:Base}{Pr M0 M:Nat->Prop}{β:Nat->Option (Nat × Nat)}{st:St}{a:Act}{w:World}{d:Option Nat}
theorem Rel.drew(r:Rel w0 Pr M0 M β st a w):Rel w0 Pr M0 M β st a w.drew:=
 r.world (qNr _) rfl rfl rfl (λ_ _ _=>rfl) (λ_ _ _ _ _ g=>g) (λ_ h=>h) (λ_ h=>.inl h)
def ES:TypeDesc->Bool
 |.int _=>true
 |_=>false
def yG(P:Program)(w:World)(M:Nat->Prop)(t2:TypeId)(v:Value)(a:Bool)(ks:List Kd)(m:Nat)(ys:List PV)(c:Value):Prop:=
 ys.length=m/\(∀y∈ys,aA a ks y=true)/\∃(zeros:Bool) (dd:TypeDesc) (C:Array Value),P.underlying t2=some dd/\ES dd=zeros /\
  C.size=m*ks.length/\(∀(i:Nat) (x:PV) (j:Nat) (cc:PV),ys[i]?=some x->x.cells[j]?=some cc->VR w M cc (C.getD (i*ks.length+j) undef)) /\
  (match zeros with
   |true=>∃k,c=.int k (m:Int)/\(m:Int)<=2147483648/\(m*ks.length=0->C=#[])/\(m*ks.length≠0->C=Builtin.zeroCells v.cells m)
   |false=>(Builtin.lenOf c).run P w=.ok m w/\(Builtin.firstCells ks.length m c).run P w=.ok C w)
def StR(P:Program)(base:Option Addr)(n:Nat)(C:Array Value)(w w1:World):Prop:=
 match base with
 |some a=>(storeCells (a.add n) C.toList).run P w=.ok () w1
 |none=>w1=w
def afu(P:Program)(v:Value)(ks:List Kd)(m:Nat)(c:Value)(C:Array Value)(zeros:Bool)(w:World):Prop:=
 match zeros with
 |true=>∃k,c=.int k (m:Int)/\(m:Int)<=2147483648/\(m*ks.length=0->C=#[])/\(m*ks.length≠0->C=Builtin.zeroCells v.cells m)
 |false=>(Builtin.lenOf c).run P w=.ok m w
theorem acX(n:Nat):∀(r c:Nat),Builtin.growBy n r c<=max c (2*n+192):=by
 intro r;induction r with
 |zero=>intro c;simp[Builtin.growBy];omega
 |succ r g=>grind[Builtin.growBy]
theorem IG(n c:Nat)(h:c<n):Builtin.nextslicecap n c<=2*n+192:=by
 unfold Builtin.nextslicecap;split
 .omega
 .split
  .omega
  .have:=acX n 4 c;omega
theorem Ut{n c b:Nat}(h:c<n)(p:n<=2147483648)(g:b<=16384):¬Builtin.nextslicecap n c*b > 2^48:=by have r:=IG n c h;have q:Builtin.nextslicecap n c*b<=4294967488*16384:=Nat.mul_le_mul ω g;omega
theorem yG.one{t2:TypeId}{v:Value}{sa:Bool}{ks:List Kd}{m:Nat}{ys:List PV}{c:Value}(h:yG P w M t2 v sa ks m ys c):∀(C:Array Value),C.size=m*ks.length ->
    (∀(i:Nat) (x:PV) (j:Nat) (r:PV),ys[i]?=some x->x.cells[j]?=some r->VR w M r (C.getD (i*ks.length+j) undef))->∀u∈C.toList,u.oneCell'=true:=by
  intro C N H u F;obtain⟨q,L⟩:=List.mem_iff_getElem?.1 F;have g:q<m*ks.length:=θ
  have B:0<ks.length:=Nat.pos_of_ne_zero λe=>by rw[e]at g;simp at g
  have J:q / ks.length<m:=(Nat.div_lt_iff_lt_mul B).2 g;have I:q%ks.length<ks.length:=Nat.mod_lt _ B;have z:ys[q / ks.length]?=some (ys[q / ks.length]'(by rw[h.1];exact J)):=qLd _;have G:=h.2.1 _ (qLe z);have p:ks[q%ks.length]?=some ks[q%ks.length]:=qLd I;obtain⟨r,E,D,_⟩:=rD G p;have:=H _ _ _ _ z E;have e:q / ks.length*ks.length+q%ks.length=q:=by rw[Nat.mul_comm];exact Nat.div_add_mod q ks.length
  rw[e]at this;have K:C.getD q undef=u:=by simp_all
  rw[K]at this;exact this.one (iG D)
theorem II{ts:Array TypeId}{ty t t2 e:TypeId}{i:TypeInfo}{v:Value}{ks:List Kd}{base:Option Addr}{len cap m:Nat}{c:Value}{dd:TypeDesc}{zeros:Bool}{C:Array Value}{O:World}{nv:Value}
    (N:ts[0]?=some t)(h1:ts[1]?=some t2)(hu:P.underlying t=some (.slice e))(hi:P.info? e=some i)(R:i.zero=some v)(B:i.size=ks.length)(K:i.bytes<=16384)
    (hd:P.underlying t2=some dd)(z:ES dd=zeros)(hm:len+m<=2147483648)
    (I:∀w,afu P v ks m c C zeros w)
    (hF:∀w',(w'=w\/w'=w.drew)->zeros=false->(Builtin.firstCells ks.length m c).run P w'=.ok C w')
    (F:len+m<=cap->nv=.slice base (len+m) cap/\StR P base (len*ks.length) C w O)
    (hgrow:cap<len+m->∀E,len+m<=E->E=(Question.appendCap (len+m) cap e).cut (w.tape w.drawn (.appendCap (len+m) cap e))->∃r:Array Value,(Builtin.firstCells ks.length len (.slice base len cap)).run P w.drew=.ok r w.drew /\
      nv=.slice (some ⟨w.heap.size,0,none⟩) (len+m) E/\O=w.drew.alloc (.cells (r++C++Builtin.zeroCells v.cells (E-(len+m))) e)) :
    (Builtin.append_ ts ty #[.slice base len cap,c]).run P w=.ok nv O:=by
  have I:=I w;unfold Builtin.append_;simp only[N,h1,show(#[Value.slice base len cap,c]:Array Value)[0]?=some (.slice base len cap) from rfl,show(#[Value.slice base len cap,c]:Array Value)[1]?=some c from rfl];simp only[Sem.run_bind,aW hu,qRa,fZ hi,aW hd,Sem.run_pure];cases dd with
  |int k0=>
   simp only[ES]at z;subst z;simp only[afu]at I;obtain⟨k,rfl,U,q1,q2⟩:=I;have wl:IntKind.i64.wrap (m:Int)=m:=IntWalk.i64_in _ ω;have X:¬(m:Int)*(i.bytes:Int) > 2^48:=by have q1:(m:Int)*(i.bytes:Int)<=2147483648*16384:=Int.mul_le_mul U ω ω ω;omega
   have p:∀w',(if m*ks.length=0 then pure #[]else do pure (Builtin.zeroCells (<-zeroValue e).cells m):Sem (Array Value)).run P w'=.ok C w':=by
    intro w';by_cases N:m*ks.length=0
    .simp_all
    .rw[if_neg N];simp only[Sem.run_bind,mM hi R,qRa,Sem.run_pure];rw[q2 N]
   simp only[if_true,asInt,asIntOf,Sem.run_bind,Sem.run_pure,qRa,wl];rw[if_neg ω];simp only[Sem.run_bind,qRa,pO hi];rw[if_neg X];simp only[Sem.run_bind,Sem.run_pure,qRa,qIt];by_cases H:len+m<=cap
   .obtain⟨L,D⟩:=F H;simp only[if_pos H,qBt,Bool.false_eq_true,if_false,B,p,Sem.run_bind,qRa];cases base with
    |none=>simp only[StR]at D;subst D;rw[L];rfl
    |some ad=>simp only[StR]at D;simp only[Sem.run_bind,D,qRa,Sem.run_pure,L]
   .have q:cap<len+m:=ω
    have J:=IG (len+m) cap q;have W:¬(((len+m:Nat):Int) > IntKind.i64.max/\(True\/i.bytes=0)):=by
     have:IntKind.i64.max=9223372036854775807:=δ
     omega
    have V:¬Builtin.nextslicecap (len+m) cap*i.bytes > 2^48:=Ut q hm K
    simp only[if_neg H,Sem.run_bind,pO hi,qRa];rw[if_neg W];simp only[Sem.run_bind,pO hi,qRa];rw[if_neg V];simp only[Sem.run_bind,Sem.run_pure];rw[run_choose];simp only[Question.forced,Bool.false_eq_true,if_false,qRa,World.drew_eq,pO hi,run_askRoom];have g:len+m<=(Question.appendCap (len+m) cap e).cut (w.tape w.drawn (.appendCap (len+m) cap e)):=Nat.le_add_right _ _;generalize G:(Question.appendCap (len+m) cap e).cut (w.tape w.drawn (.appendCap (len+m) cap e))=E at g;obtain⟨r,Q,o2,o3⟩:=hgrow q E g G.symm;rw[B];simp only[Q,qRa];simp only[qBt,Bool.false_eq_true,if_false,p,mM hi R,qRa];simp_all[newRow]
  |_=>
   simp only[ES]at z;subst z;simp only[afu]at I;have p:∀w',(w'=w\/w'=w.drew)->(Builtin.firstCells ks.length m c).run P w'=.ok C w':=λw' S=>hF w' S rfl;have Z:=p w (.inl rfl);have Y:=p w.drew (.inr rfl);simp only[Bool.false_eq_true,if_false,Sem.run_bind,I,qRa];by_cases H:len+m<=cap
   .obtain⟨L,D⟩:=F H;simp only[if_pos H,qBf,if_true,B,Z,Sem.run_bind,qRa];cases base with
    |none=>simp only[StR]at D;subst D;rw[L];rfl
    |some ad=>simp only[StR]at D;simp only[Sem.run_bind,D,qRa,Sem.run_pure,L]
   .have q:cap<len+m:=ω
    have J:=IG (len+m) cap q;have W:¬(((len+m:Nat):Int) > IntKind.i64.max/\(False\/i.bytes=0)):=by
     have:IntKind.i64.max=9223372036854775807:=δ
     omega
    have V:¬Builtin.nextslicecap (len+m) cap*i.bytes > 2^48:=Ut q hm K
    simp only[if_neg H,Sem.run_bind,pO hi,qRa];rw[if_neg W];simp only[Sem.run_bind,pO hi,qRa];rw[if_neg V];simp only[Sem.run_bind,Sem.run_pure];rw[run_choose];simp only[Question.forced,Bool.false_eq_true,if_false,qRa,World.drew_eq,pO hi,run_askRoom];have g:len+m<=(Question.appendCap (len+m) cap e).cut (w.tape w.drawn (.appendCap (len+m) cap e)):=Nat.le_add_right _ _;generalize G:(Question.appendCap (len+m) cap e).cut (w.tape w.drawn (.appendCap (len+m) cap e))=E at g;obtain⟨r,Q,o2,o3⟩:=hgrow q E g G.symm;rw[B];simp only[Q,qRa];simp only[qBf,if_true,Y,mM hi R,qRa];simp_all[newRow]
end
end
section
variable {A ys:List PV}{ks:List Kd}{sa:Bool}{t2:TypeId}{c v:Value}{m:Nat}
section
variable {P:Program}{T:Tab}{w0:Base}{Pr M0 M:Nat->Prop}{β:Nat->Option (Nat × Nat)}{st:St}{a:Act}{w:World}{d:Option Nat}
theorem ZV{B:List PV}{CA p CR:Array Value}(hA:CA.size=A.length*ks.length)(I:p.size=B.length*ks.length)(r:∀x∈B,aA sa ks x=true)(z:∀x∈A,aA sa ks x=true)
    (K:∀(i:Nat) (x:PV) (j:Nat) (g:PV),A[i]?=some x->x.cells[j]?=some g->VR w M g (CA.getD (i*ks.length+j) undef))
    (J:∀(i:Nat) (x:PV) (j:Nat) (g:PV),B[i]?=some x->x.cells[j]?=some g->VR w M g (p.getD (i*ks.length+j) undef)) :
    ∀(i:Nat) (x:PV) (j:Nat) (g:PV),(A++B)[i]?=some x->x.cells[j]?=some g->VR w M g ((CA++p++CR).getD (i*ks.length+j) undef):=by
  intro i x j g q H;by_cases hi:i<A.length
  .rw[List.getElem?_append_left hi]at q;have E:j<ks.length:=by have:=bV (z x (qLe q));grind
   have D:i*ks.length+j<CA.size:=by have:(i+1)*ks.length<=A.length*ks.length:=Nat.mul_le_mul_right _ hi;grind
   have e:(CA++p++CR).getD (i*ks.length+j) undef=CA.getD (i*ks.length+j) undef:=by simp only[qAb];grind
   grind
  .rw[List.getElem?_append_right ω]at q;have F:=(qLa.1 q).1;have E:j<ks.length:=by have:=bV (r x (qLe q));grind
   have G:i*ks.length+j=CA.size+((i-A.length)*ks.length+j):=by
    rw[hA];have:i=A.length+(i-A.length):=ω
    grind
   have D:(i-A.length)*ks.length+j<p.size:=by have:(i-A.length+1)*ks.length<=B.length*ks.length:=Nat.mul_le_mul_right _ F;grind
   have e:(CA++p++CR).getD (i*ks.length+j) undef=p.getD ((i-A.length)*ks.length+j) undef:=by simp only[qAb];rw[G,Array.getElem?_append_left (by simp;omega),Array.getElem?_append_right ω];simp
   grind
theorem ET(g:Array Value)(n:Nat):(Builtin.zeroCells g n).size=n*g.size:=by simp[Builtin.zeroCells]
theorem yG.both(O:yG P w M t2 v sa ks m ys c)(E:yG P w.drew M t2 v sa ks m ys c) :
    ∃(zeros:Bool) (dd:TypeDesc) (C:Array Value),P.underlying t2=some dd/\ES dd=zeros/\C.size=m*ks.length /\
     (∀(i:Nat) (x:PV) (j:Nat) (I:PV),ys[i]?=some x->x.cells[j]?=some I->VR w M I (C.getD (i*ks.length+j) undef)) /\
     (∀w',afu P v ks m c C zeros w')/\∀w',(w'=w\/w'=w.drew)->zeros=false->(Builtin.firstCells ks.length m c).run P w'=.ok C w':=by
  obtain⟨b1,b2,zeros,dd,H,K,J,X,V,G⟩:=O;obtain⟨_,_,zeros',S,z,r,q,W,U,F⟩:=E;rw[K]at r;cases r;rw[J]at q;subst q;have D:H=z:=by
   cases zeros with
   |true=>grind
   |false=>
    have R:=G.2;have Q:=F.2;have p:∀(n:Nat) (c:Value),(∃C,(Builtin.firstCells ks.length n c).run P w=.ok C w)->∀C',(Builtin.firstCells ks.length n c).run P w.drew=.ok C' w.drew->(Builtin.firstCells ks.length n c).run P w=.ok C' w:=by
     intro n c ⟨C,B⟩ C' g;have loads:∀(a:Addr) (k i:Nat) (acc:Array Value) (C C':Array Value),(loadCellsFrom a i k acc).run P w=.ok C w->(loadCellsFrom a i k acc).run P w.drew=.ok C' w.drew->C=C':=by
      intro a k;induction k with
      |zero=>intro i acc C C' h h';simp[loadCellsFrom]at h h';rw[<-h,<-h']
      |succ k Y=>
       intro i acc C C' h h';simp only[loadCellsFrom,Sem.run_bind,run_load]at h h';rw[World.cell?_drew]at h';cases N:w.cell? (a.add i)with
       |some x=>grind[qRa]
       |none=>
        rw[N]at h h';simp only at h h';have Z:w.drew.farLoad P (a.add i) false=w.farLoad P (a.add i) false:=rfl;cases L:w.farLoad P (a.add i) (Mode.plain==Mode.atomic)with
        |error x=>rw[L]at h;simp at h
        |ok x=>grind[qRa]
     have:C=C':=by
      unfold Builtin.firstCells at B g;split at B
      .exact loads _ _ _ _ _ _ B g
      .grind[Sem.run_pure,Result.ok.injEq]
      .grind[Sem.run_pure,Result.ok.injEq]
      .simp at B
     grind
    have:=p m c ⟨H,R⟩ z Q;grind
  subst D;refine⟨zeros,dd,H,K,J,X,V,?_,?_⟩
  .intro w';cases zeros with
   |true=>exact G
   |false=>simp only[afu];have:=G.1;unfold Builtin.lenOf at this ⊢;split at this<;>simp_all
  .grind
theorem Dj{ts:Array TypeId}{ty t e:TypeId}{i:TypeInfo}{base:Option Addr}{len cap:Nat} 
    (V:ts[0]?=some t)(U:ts[1]?=some t2)(O:P.underlying t=some (.slice e))(hi:P.info? e=some i)(N:i.zero=some v)(B:i.size=ks.length)(E:i.bytes<=16384)(z:v.cells.size=ks.length)
    (Q:len+m<=2147483648)(hA:QA P w.drew M sa ks len A (.slice base len cap))(G:yG P w M t2 v sa ks m ys c)(F:yG P w.drew M t2 v sa ks m ys c)(R:cap<len+m) :
    ∃(C:Array Value) (g:Nat),(Builtin.append_ ts ty #[.slice base len cap,c]).run P w=.ok (.slice (some ⟨w.heap.size,0,none⟩) (len+m) g) (w.drew.alloc (.cells C e))/\len+m<=g/\C.size=g*ks.length /\
     (∀x∈A++ys,aA sa ks x=true)/\(A++ys).length=len+m /\
     ∀(i:Nat) (x:PV) (j:Nat) (p:PV),(A++ys)[i]?=some x->x.cells[j]?=some p->VR w.drew M p (C.getD (i*ks.length+j) undef):=by
  obtain⟨a1,J,a3,a4⟩:=hA;obtain⟨CA,p1,H,L⟩:=a4 len (qNr _);have b1:=G.1;have b2:=G.2.1;obtain⟨zeros,dd,K,b3,b4,I,Z,Y,X⟩:=G.both F;let g:=(Question.appendCap (len+m) cap e).cut (w.tape w.drawn (.appendCap (len+m) cap e));have q:len+m<=g:=Nat.le_add_right _ _;refine⟨CA++K++Builtin.zeroCells v.cells (g-(len+m)),g,?_,q,?_,?_,?_,?_⟩
  .refine II V U O hi N B E b3 b4 Q (C:=K) Y X (λh=>ω) ?_;grind
  .simp only[Array.size_append,H,I,ET,z];rw[<-Nat.add_mul,<-Nat.add_mul];grind
  .grind
  .simp[J,b1]
  .have W:∀(v:PV) (c:Value),VR w M v c->VR w.drew M v c:=λv c h=>VR.mono (w:=w) (w':=w.drew) (M':=M) (λb S=>⟨S,rfl⟩) h;exact ZV (by rw[H,J]) (by rw[I,b1]) b2 a3 (λi x j p r D=>L i x j p (by have:=(qLa.1 r).1;omega) r D) (λi x j p r D=>W _ _ (Z i x j p r D))
end
end
section
variable {sa:Bool}{ks:List Kd}{e:TypeId}{len:Nat}{c:Value}
section
variable {P:Program}{T:Tab}{w0:Base}{Pr M0 M:Nat->Prop}{β:Nat->Option (Nat × Nat)}{st:St}{a:Act}{w:World}{d:Option Nat}
theorem Rel.abB(r:Rel w0 Pr M0 M β st a w){d:Nat}{xs:List PV}{C:Array Value}{cap:Nat}
    (z:∀x∈xs,aA sa ks x=true)(g:len<=xs.length)(p:len<=cap)(F:cap*ks.length<=C.size)(E:xs.length*ks.length<=C.size)
    (D:∀(i:Nat) (x:PV) (j:Nat) (c:PV),xs[i]?=some x->x.cells[j]?=some c->VR w.drew M c (C.getD (i*ks.length+j) undef)) :
    Rel w0 Pr M0 (bg M β []) (λx=>if x=d then some (w.heap.size,0)else β x) (st.apply (some d) {val:=.slice d ks.length 0 len,ny:=[(d,.arr sa ks xs)],new:=[d]}) (a.put (some d) (.slice (some ⟨w.heap.size,0,none⟩) len cap)) (w.drew.alloc (.cells C e)):=
  r.drew.afr (ss:=[]) rfl σ (fr:=(0,0)) (qF C) z g p F E λi x j c q B=>(D i x j c q B).plus []
theorem Rel.afv(r:Rel w0 Pr M0 M β st a w){s z:Nat}{blk:aH}{w':World}{p:Option (Nat × Nat)}{d:Option Nat}(auq:s<ah)
    (K:w.heap.size<=w'.heap.size)(N:w'.os=w.os)(J:w'.tape=w.tape)(O:w'.output=w.output)
    (q:∀k,k<w.heap.size->(∀o,β s=some (k,o)->(look st.heap s).isSome=true->False)->w'.heap[k]?=w.heap[k]?)
    (L:∀b n,b<w.heap.size->Room w b n->Room w' b n)
    (hp:∀b o,p=some (b,o)->¬M b/\b<w'.heap.size/\((w0.heap.size<=b\/Pr b)/\(w0.n0<=b\/ah<=s))/\(∀B I,B≠s->(look st.heap B).isSome=true->β B≠some (b,I)))
    (hB:∀(β':Nat->Option (Nat × Nat)) (h':Nat->Option aH),β' s=p->h' s=some blk->(∀(v:PV) (c:Value),VR w M v c->VR w' M v c)->BR w' M β' h' s blk/\AR w' M β' h' (.slice s z 0 len) c) :
    Rel w0 Pr M0 M (λx=>if x=s then p else β x) (st.apply d {val:=.slice s z 0 len,ny:=[(s,blk)],cut:=[s]}) (a.put d c) w':=by
  have X:=r.strike (M':=M) [s] (λ_ h=>h) (λ_ h=>.inl h);have E:∀x,(look (st.strike [s]).heap x).isSome=true->x≠s/\(look st.heap x).isSome=true:=by grind[bY]
  have Q:∀k,M k->w'.heap[k]?=w.heap[k]?:=λk g=>q k (r.dJ k g) λo H G=>(r.own s k o G H).1 g;have W:Rel w0 Pr M0 M β (st.strike [s]) a w':=X.world K N J O (λk g D=>q k g λo H G=>by
   rcases D with D |⟨B,I,S,h4⟩ |⟨S,h4⟩
   .exact(r.own s k o G H).1 D
   .exact(E B S).1 (r.inj B s k I o (E B S).2 G h4 H)
   .rcases(r.own s k o G H).2.2.1 with h |h;all_goals grind) (λk n _ g _ Y=>L k n g Y) (λ_ h=>h) (λ_ h=>.inl h)
  have F:look (st.strike [s]).heap s=none:=by rw[bY,if_pos σ]
  obtain⟨R,hB2⟩:=hB (λx=>if x=s then p else β x) (λx=>if x=s then some blk else look (st.strike [s]).heap x) σ σ (λv c h=>h.mono λk g=>⟨g,Q k g⟩);have V:=W.lay (s:=s) (blk:=blk) F (p:=p) (λb o e=>θ) R;have Z:look (put (st.strike [s]).heap s blk)=λx=>if x=s then some blk else look (st.strike [s]).heap x:=funext λx=>aZ _ _ _ _
  have U:=V.setEnv d (v:=.slice s z 0 len) (c:=c) θ;have e1:st.apply d {val:=.slice s z 0 len,ny:=[(s,blk)],cut:=[s]}={env:=Skm.setEnv (st.strike [s]).env d (.slice s z 0 len),heap:=put (fM [s] st.heap) s blk}:=rfl;rw[e1];refine Rel.congr U (hp:=put (fM [s] st.heap) s blk) λx=>?_;show look (put (fM [s] st.heap) s blk) x=look (put (st.strike [s]).heap s blk) x;rw[aZ,aZ];by_cases h:x=s
  .grind
  .grind[fE,bY]
theorem abC(_ok:bJ P T)(r:Rel w0 Pr M0 M β st a w){h':Nat->Option aH}(hsub:∀s b,h' s=some b->look st.heap s=some b){ts:Array TypeId}{ty t t2:TypeId}{i:TypeInfo}{v:Value}{dd:Nat}{x:AV}{cy:Value}
    {s2:Option (Bool × List Kd)}{m:Nat}{ys:List PV}
    (h0:ts[0]?=some t)(F:ts[1]?=some t2)(hu:P.underlying t=some (.slice e))(hi:P.info? e=some i)(hz:i.zero=some v)(W:i.size=ks.length)(Y:i.bytes<=16384)(hzs:v.cells.size=ks.length)
    (q:AR w M β (look st.heap) x c)(Z:EG s2 sa ks=true->yG P w M t2 v sa ks m ys cy)(J:EG s2 sa ks=true->yG P w.drew M t2 v sa ks m ys cy) :
    aI P w0 Pr M0 β st a w (some dd) (OB h' dd (sa,ks) x s2 m ys) (do pure (.value (<-Builtin.append_ ts ty #[c,cy]))):=by
  unfold OB;refine aI.chk λhsame=>?_;have Z:=Z hsame;have J:=J hsame;have O:ys.length=m:=Z.1;have b2:=Z.2.1;obtain⟨zeros,td,G,b3,b4,b5,b6,b7,b8⟩:=Z.both J;have one:∀u∈G.toList,u.oneCell'=true:=Z.one G b5 b6;have I:∀(base:Option Addr) (len cap:Nat) (w1:World),len+m<=2147483648->len+m<=cap->StR P base (len*ks.length) G w w1->(Builtin.append_ ts ty #[.slice base len cap,cy]).run P w=.ok (.slice base (len+m) cap) w1:=by intro base len cap w1 U hcap X;exact II h0 F hu hi hz W Y b3 b4 U (C:=G) b7 b8 (λ_=>⟨rfl,X⟩) (λh=>ω)
  split
  .rename_i s z off len;split
   .rename_i a' g xs hl0;have hl:=hsub _ _ hl0;refine aI.chk λL=>aI.chk λU=>?_;simp only[qBa,beq_iff_eq,qDa]at L U;obtain⟨rfl,hk2,E⟩:=L;have:=Kd.oG _ _ hk2;subst this;have E:s<100000:=(Nat.blt_eq▸E:_);have hi0:(look st.heap s).isSome=true:=by rw[hl];rfl
    have hA:QA P w.drew M a' g len ((xs.drop off).take len) c:=
     ER (P:=P) r.drew hsub (y:=.slice s z off len) (c:=c) (s2:=some (a',g)) (m:=len) (ys:=(xs.drop off).take len) (AR.mono (w:=w) (w':=w.drew) (M':=M) (β':=β) (h':=look st.heap) (λb hb=>⟨hb,rfl⟩) q λs blk _ h=>⟨blk,h,Like.refl _,rfl,λ_ _ _ _ h=>h⟩)
      (by simp only[Ya,hl0]) (by simp[EG,Kd.kL])
    have grow:∀(base:Option Addr) (cap:Nat),c=.slice base len cap->cap<len+m->aI P w0 Pr M0 β st a w (some dd) (.ret {val:=.slice s g.length 0 (len+m),ny:=[(s,.arr a' g ((xs.drop off).take len++ys))],cut:=[s]}) (do pure (.value (<-Builtin.append_ ts ty #[c,cy]))):=by
     intro base cap hc hgr;subst hc;obtain⟨C,sZ,g1,N,V,g4,g5,g6⟩:=Dj (ty:=ty) h0 F hu hi hz W Y hzs U hA Z J hgr;refine aI.ret (h5:=λ_=>nN (.inl E)) (h4:=λ_ s' R=>if_neg (by simp only[ah]at R;omega)) (M':=M) (β':=λx=>if x=s then some (w.heap.size,0)else β x) (nv:=.value (.slice (some ⟨w.heap.size,0,none⟩) (len+m) sZ)) (by simp only[Sem.run_bind,g1,qRa,Sem.run_pure];rfl) (.inl rfl) λ_=>?_;refine r.afv E (p:=some (w.heap.size,0)) (w':=w.drew.alloc (.cells C e)) σ rfl rfl rfl (λk L _=>alloc_old (w:=w.drew) L) (λk n L K=>K.of_block (alloc_old (w:=w.drew) L)) ?_ ?_
     .intro b o hp;cases hp;refine⟨λhM=>by have:=r.dJ _ hM;omega,σ,⟨.inl r.size,.inl (Nat.le_trans w0.le' r.size)⟩,λs' o' _ F h2=>by have:=(r.own s' _ o' F h2).2.1;omega⟩
     .intro β' h'' nV hh hv;have hdr:∀(v:PV) (c:Value),VR w.drew M v c->VR (w.drew.alloc (.cells C e)) M v c:=λv c h=>h.mono λb hb=>⟨hb,alloc_old (w:=w.drew) (r.dJ b hb)⟩;have D:(w.drew.alloc (.cells C e)).heap[w.heap.size]?=some (.cells C e):=lC (w:=w.drew);have hX:((xs.drop off).take len++ys).length*g.length<=C.size:=by rw[g5,V];exact Nat.mul_le_mul_right _ N
      refine⟨.arr a' g _ w.heap.size 0 C e (0,0) nV D ω (qF C) g4 (λi x j c q hj=>by rw[qNz];exact hdr _ _ (g6 i x j c q hj)),?_⟩;have:=AR.slice (w:=w.drew.alloc (.cells C e)) (M:=M) (β:=β') (h:=h'') s 0 (len+m) a' g _ w.heap.size 0 sZ hh ω nV N (Room.mk (fr:=(0,0)) D (by rw[qNz,qNz,V];exact qNr _) (qF C));grind
    cases q with
    |slice _ _ _ a1 ks1 xs1 b o cap p1 p2 p3 p4 p5=>
     rw[hl]at p1;cases p1;by_cases hfit:len+m<=cap
     .obtain⟨C,ce,fr,k1,k2,k3⟩:=p5.get;have hroom:o+off*g.length+len*g.length+G.toList.length<=C.size:=by have:(off+(len+m))*g.length<=(off+cap)*g.length:=Nat.mul_le_mul_right _ ω;grind
      have X:=yE (P:=P) (b:=b) (o:=o+off*g.length+len*g.length) (e:=ce) (fr:=fr) G.toList 0 w C k1 k3 (by simpa using hroom) one;rw[Nat.add_zero]at X;have B:=I (some ⟨b,o+off*g.length,none⟩) len cap _ U hfit (by simp only[StR,addr_add];exact X);refine aI.ret (h5:=λ_=>nN (.inl E)) (h4:=λ_ s' R=>if_neg (by simp only[ah]at R;omega)) (M':=M) (β':=λx=>if x=s then some (b,o+off*g.length)else β x) (nv:=.value (.slice (some ⟨b,o+off*g.length,none⟩) (len+m) cap)) (by simp only[Sem.run_bind,B,qRa,Sem.run_pure];rfl) (.inl rfl) λ_=>?_;have hbk:∀k,k≠b->(fJ w b (dO C (o+off*g.length+len*g.length) G.toList) ce fr).heap[k]?=w.heap[k]?:=λk L=>by grind[fJ]
      obtain⟨o1,o2,o3⟩:=r.own s b o hi0 p3;refine r.afv E (p:=some (b,o+off*g.length)) (by simp[fJ]) rfl rfl rfl (λk L hne=>hbk k λe=>by subst e;exact hne o p3 hi0) (λk n L K=>by
       by_cases hkb:k=b
       .subst hkb;obtain⟨C1,e1,Y7,F,h2,h3⟩:=K;rw[k1]at F;cases F;have H:=gU (vs:=G.toList) hroom;exact⟨_,ce,fr,uS (C':=dO C (o+off*g.length+len*g.length) G.toList) k1,ω,λh=>(h3 h).size ω⟩
       .exact K.of_block (hbk k hkb)) ?_ ?_
      .intro b' o' hp;cases hp;exact⟨o1,by simpa[fJ] using o2,o3,λs' o' hne F h2=>hne (r.inj s' s b o' o F hi0 h2 p3)⟩
      .intro β' h'' nV hh hv;have D:=uS (C':=dO C (o+off*g.length+len*g.length) G.toList) k1;have H:=gU (vs:=G.toList) hroom;have hopen:Open (dO C (o+off*g.length+len*g.length) G.toList) fr:=k3.size H;have hlen:((xs.drop off).take len).length=len:=by simp;omega
       refine⟨.arr a' g _ b _ _ ce fr nV D ?_ hopen ?_ ?_,?_⟩
       .rw[H,qLp,hlen,O,Nat.add_mul];grind
       .intro x q;rcases List.mem_append.1 q with q |q
        .exact hA.2.2.1 x q
        grind
       .intro i x j cc q hj;rw[qh hroom];by_cases hi:i<len
        .rw[List.getElem?_append_left ω]at q;have hj':j<g.length:=by have:=bV (hA.2.2.1 x (qLe q));grind
         have F:(i+1)*g.length<=len*g.length:=Nat.mul_le_mul_right _ hi;rw[Nat.add_mul]at F;rw[if_neg ω];have hx':=wJ q;cases r.heap s _ hl with
         |gJ=>simp at hx'
         |arr _ _ _ b' o' C2 e2 fr2 g1 N V g4 g5 g6=>rw[p3]at g1;cases g1;rw[k1]at N;cases N;have:=g6 _ x j cc hx' hj;rw[Nat.add_mul,<-Nat.add_assoc]at this;grind
        .rw[List.getElem?_append_right ω,hlen]at q;have hi':=(qLa.1 q).1;have hj':j<g.length:=by have:=bV (b2 x (qLe q));grind
         have e0:i*g.length=len*g.length+(i-len)*g.length:=by rw[<-Nat.add_mul];congr 1;omega
         have F:(i-len+1)*g.length<=ys.length*g.length:=Nat.mul_le_mul_right _ hi';rw[Nat.add_mul]at F;rw[if_pos (by simp only[Array.length_toList,b5];rw[O]at F;omega)];have e1:o+off*g.length+i*g.length+j-(o+off*g.length+len*g.length)=(i-len)*g.length+j:=ω
         rw[e1];have:=hv _ _ (b6 _ x j cc q hj);simpa using this
       .have:=AR.slice (w:=fJ w b (dO C (o+off*g.length+len*g.length) G.toList) ce fr) (M:=M) (β:=β') (h:=h'') s 0 (len+m) a' g _ b (o+off*g.length) cap hh (by simp;omega) nV hfit
          (Room.mk D (by rw[H,qNz];have:=k2;rw[Nat.add_mul]at this;omega) hopen)
        grind
     grind
    |sliceE _ _ a1 ks1 xs1 base p1 p2=>
     by_cases S:m=0
     .subst S;have hCB:G.toList=[]:=θ
      have B:=I base 0 0 w U (qNr _) (by
       cases base with
       |none=>rfl
       |some ad=>simp only[StR,hCB];rfl)
      refine aI.ret (h5:=λ_=>nN (.inl E)) (h4:=λ_ s' R=>if_neg (by simp only[ah]at R;omega)) (M':=M) (β':=λx=>if x=s then none else β x) (nv:=.value (.slice base 0 0)) (by simp only[Sem.run_bind,B,qRa,Sem.run_pure,Nat.add_zero];rfl) (.inl rfl) λ_=>?_;have Q:ys=[]:=by simpa using O
      refine r.afv E (p:=none) (qNr _) rfl rfl rfl (λ_ _ _=>rfl) (λ_ _ _ h=>h) (λ_ _ h=>by cases h) ?_;intro β' h'' nV hh hv;simp only[Q,List.take_zero,List.append_nil]at hh ⊢;exact⟨.gJ _ _,.sliceE s 0 _ _ [] base hh σ⟩
     grind
   .exact aI.fail
  .refine aI.chk λU=>?_;simp only[qDa]at U;cases q with
   |p _ _ q=>cases q with
   |nil=>
    by_cases S:m=0
    .subst S;have B:=I none 0 0 w ω (qNr _) rfl;have Q:ys=[]:=by simpa using O
     subst Q;have K:=r.afs (d:=dd) (sa:=sa) (ks:=ks);exact aI.ret (nv:=.value (.slice none 0 0)) (by simp only[Sem.run_bind,B,qRa,Sem.run_pure,Nat.add_zero]) (.inl rfl) (λ_=>K) (λhf=>rG hf)
    .obtain⟨C,sZ,g1,N,V,g4,g5,g6⟩:=Dj (ty:=ty) (len:=0) (A:=[]) h0 F hu hi hz W Y hzs ω (nY none 0) Z J ω;simp only[List.nil_append,qNz]at g1 N V g4 g5 g6;have K:=r.abB (d:=dd) (sa:=sa) (ks:=ks) (xs:=ys) (C:=C) (e:=e) (len:=m) (cap:=sZ) g4 ω N (by rw[V];exact qNr _) (by rw[g5,V];exact Nat.mul_le_mul_right _ N) g6;exact aI.ret (nv:=.value (.slice (some ⟨w.heap.size,0,none⟩) m sZ)) (by simp only[Sem.run_bind,g1,qRa,Sem.run_pure]) (.inl rfl) (λ_=>K) (λhf=>rG hf)
  .rename_i a' g xs;refine aI.chk λL=>aI.chk λU=>?_;simp only[qBa,beq_iff_eq,qDa]at L U;obtain⟨rfl,hk2⟩:=L;have:=Kd.oG _ _ hk2;subst this;have hA:QA P w.drew M a' g xs.length xs c:=by
    cases q with
    |p _ _ q=>exact LM (.inr rfl) (VR.mono (w:=w) (w':=w.drew) (M':=M) (λb hb=>⟨hb,rfl⟩) q)
   have hform:∃base,c=.slice base xs.length xs.length:=by
    cases q with
    |p _ _ q=>cases q with
     |full _ _ _ b o f=>exact⟨_,rfl⟩
     |JO _ _ base=>exact⟨base,rfl⟩
   obtain⟨base,rfl⟩:=hform;by_cases S:m=0
   .subst S;have hx0:xs=[]:=List.length_eq_zero_iff.1 ω;subst hx0;have hCB:G.toList=[]:=θ
    have B:=I base 0 0 w ω (qNr _) (by
     cases base with
     |none=>rfl
     |some ad=>simp only[StR,hCB];rfl)
    have Q:ys=[]:=by simpa using O
    subst Q;have K:=r.afs (d:=dd) (sa:=a') (ks:=g) base;exact aI.ret (nv:=.value (.slice base 0 0)) (by simp only[List.length_nil,Sem.run_bind,B,qRa,Sem.run_pure,Nat.add_zero]) (.inl rfl) (λ_=>K) (λhf=>rG hf)
   obtain⟨C,sZ,g1,N,V,g4,g5,g6⟩:=Dj (ty:=ty) h0 F hu hi hz W Y hzs U.2 hA Z J ω;have K:=r.abB (d:=dd) (sa:=a') (ks:=g) (xs:=xs++ys) (C:=C) (e:=e) (len:=xs.length+m) (cap:=sZ) g4 ω N (by rw[V];exact qNr _) (by rw[g5,V];exact Nat.mul_le_mul_right _ N) g6;exact aI.ret (nv:=.value (.slice (some ⟨w.heap.size,0,none⟩) (xs.length+m) sZ)) (by simp only[Sem.run_bind,g1,qRa,Sem.run_pure]) (.inl rfl) (λ_=>K) (λhf=>rG hf)
  .exact aI.fail
end
end
section
variable {e t t2:TypeId}{c v:Value}{sa:Bool}{ks:List Kd}{b m o:Nat}{dd:TypeDesc}{h':Nat -> Option aH}{C:Array Value}{fr:Nat × Nat}
section
variable {P:Program}{T:Tab}{w0:Base}{Pr M0 M:Nat->Prop}{β:Nat->Option (Nat × Nat)}{st:St}{a:Act}{w:World}{d:Option Nat}
theorem AR.drew{h:Nat->Option aH}{x:AV}{c:Value}(g:AR w M β h x c):AR w.drew M β h x c:=
 AR.mono (w:=w) (w':=w.drew) (M':=M) (β':=β) (h':=h) (λ_ p=>⟨p,rfl⟩) g λ_ blk _ h=>⟨blk,h,Like.refl _,rfl,λ_ _ _ _ h=>h⟩
theorem yG.ZW{ys:List PV}(G:P.underlying t2=some dd)(F:ES dd=false)(h:QA P w M sa ks m ys c):yG P w M t2 v sa ks m ys c:=by obtain⟨q1,q,p,g⟩:=h;obtain⟨C,B,z,r⟩:=g m (qNr _);refine⟨q,p,false,dd,C,G,F,z,λi x j H D E=>r i x j H ?_ D E,q1,B⟩;grind
theorem yG.abD{z:PV}{k:IntKind}(E:P.underlying t2=some dd)(D:ES dd=true)(H:(m:Int)<=2147483648)(G:ofValue v=some z)(r:aA sa ks z=true) :
    yG P w M t2 v sa ks m (List.replicate m z) (.int k (m:Int)):=by
  have g:=yF G r;obtain⟨J,O,N,L,K⟩:=xq G;refine⟨σ,λy F=>by simp at F;rw[F.2];exact r,true,dd,if m*ks.length=0 then #[]else Builtin.zeroCells v.cells m,E,D,?_,?_,k,rfl,H,λh=>if_pos h,λh=>if_neg h⟩
  .grind[ET]
  .intro i x j Q q I;have hi:i<m:=by simpa using (qLa.1 q).1
   rw[List.getElem?_replicate,if_pos hi]at q;cases q;have p:=(qLa.1 I).1;rw[bV r]at p;have B:m*ks.length≠0:=by
    have E:0<m:=ω
    have D:0<ks.length:=ω
    exact Nat.ne_of_gt (Nat.mul_pos E D)
   rw[if_neg B];have:=Gq (n:=m) g hi p;have e:Builtin.zeroCells v.cells m=(Array.range (m*ks.length)).map (v.cells[·%v.cells.size]!):=by simp[Builtin.zeroCells,g]
   grind
theorem ZX(ok:bJ P T)(r:Rel w0 Pr M0 M β st a w)(p:∀s b,h' s=some b->look st.heap s=some b){ts:Array TypeId}{ty:TypeId}{x y:AV}{W:Value}
    (S:ts[0]?=some t)(R:ts[1]?=some t2)(O:AR w M β (look st.heap) x c)(G:AR w M β (look st.heap) y W) :
    aI P w0 Pr M0 β st a w d (Iu T h' d t t2 x y) (do pure (.value (<-Builtin.append_ ts ty #[c,W]))):=by
  unfold Iu;split
  .rename_i dd e E;have E:=ok.und E;split
   .rename_i z n by_ Z hn J
    obtain⟨i,v,F,U,K⟩:=ok.zero Z;obtain⟨Y,q1,N⟩:=ok.size hn;rw[F]at q1;cases q1;obtain⟨Y,q1,q3⟩:=ok.bytes J
    rw[F]at q1;cases q1;refine aI.chk λQ=>?_;simp only[qBa,beq_iff_eq]at Q;obtain⟨b1,L,X⟩:=Q;have X:=Nat.le_of_ble_eq_true X;subst b1;have B:=yF K L;split
    .rename_i k0 g;have g:=ok.und g;split
     .rename_i k m;rw[G.BI];refine aI.chk λhm=>?_;simp only[qBa,qDa]at hm;have e1:(m.toNat:Int)=m:=ω
      rw[show Value.int k m=Value.int k (m.toNat:Int) from by rw[e1]];exact abC (sa:=(ay T e).1) (ks:=(ay T e).2) ok r p S R E F U N ω B O (λ_=>yG.abD g rfl ω K L) (λ_=>yG.abD g rfl ω K L)
     .exact aI.fail
    .rename_i V I g;have g:=ok.und g;have D:ES V=false:=by cases V<;>first |rfl |(exact absurd rfl (I _))
     split
     .rename_i s2 m ys q;exact abC (sa:=(ay T e).1) (ks:=(ay T e).2) ok r p S R E F U N ω B O (λH=>yG.ZW g D (ER r p G q H)) (λH=>yG.ZW g D (ER r.drew p G.drew q H))
     .exact aI.fail
    .exact aI.fail
   .exact aI.fail
  .exact aI.fail
theorem qG(st:St)(d:Option Nat)(v:AV)(s:Nat)(b:aH):st.apply d {val:=v,ny:=[(s,b)]}={env:=Skm.setEnv st.env d v,heap:=put st.heap s b}:=rfl
theorem qN{i:TypeInfo}(hi:P.info? t=some i)(g:c.cells.size=i.size)(p:w.heap[b]?=some (.cells C e fr))(q:Open C fr)
    (r:o+c.cells.size<=C.size)(z:∀u∈c.cells.toList,u.oneCell'=true):(Instr.storeAt t (.pointer (some ⟨b,o,none⟩)) c).run P w=.ok () (fJ w b (dO C o c.cells.toList) e fr):=by
  have:=yE (P:=P) (b:=b) (o:=o) c.cells.toList 0 w C p q (by simpa using r) z;simp only[Instr.storeAt,Instr.sureAddr,Sem.run_bind,Sem.run_pure,qRa,storeVar,fZ hi];rw[if_neg (by simpa using g)];simpa using this
theorem cells_one{cs:Array Value}(h:∀(j:Nat),j<cs.size->(cs.getD j undef).oneCell'=true):∀u∈cs.toList,u.oneCell'=true:=by
 intro u p;obtain⟨j,q⟩:=List.mem_iff_getElem?.1 p;have g:=(qLa.1 q).1;have r:=h j (by simpa using g);have e:cs.getD j undef=u:=by simp_all
 rwa[e]at r
theorem Rel.aho(r:Rel w0 Pr M0 M β st a w){ss:List Nat}(hf:gI ss=true)(hlive:∀s∈ss,(look st.heap s).isSome=true){s g off n:Nat}{xs:List PV}{x E:PV}{cs:List Value}{d:Option Nat}
    (X:s ∉ ss)(hl:look st.heap s=some (.arr sa ks xs))(N:β s=some (b,o))(W:w.heap[b]?=some (.cells C e fr))(Z:o+xs.length*ks.length<=C.size)(Y:Open C fr)(G:∀x∈xs,aA sa ks x=true)
    (R:∀(i:Nat) (x:PV) (j:Nat) (c:PV),xs[i]?=some x->x.cells[j]?=some c->VR w M c (C.getD (o+i*ks.length+j) undef))(hi:g<xs.length)(hcl:cs.length=n)(O:off+n<=ks.length)
    (V:aA sa ks E=true)(hcv:∀(j:Nat) (y:PV),x.cells[j]?=some y->VR w (bg M β ss) y (cs.getD j undef))(U:x.cells.length=n)
    (hcell:∀(j:Nat) (c:PV),E.cells[j]?=some c->(off<=j/\j<off+n/\x.cells[j-off]?=some c)\/((j<off\/off+n<=j)/\∃c0,(xs.getD g .nil).cells[j]?=some c0/\∀v,VR w M c0 v->VR w M c v)) :
    Rel w0 Pr M0 (bg M β ss) β (st.apply d {val:=.undef,ny:=[(s,.arr sa ks (xs.set g E))],zK:=ss}) (a.put d undef) (fJ w b (dO C (o+g*ks.length+off) cs) e fr):=by
  have S:=r.freeze [] ss hf hlive;have I:look (st.strike ([]++ss)).heap s=some (.arr sa ks xs):=by rw[bY,if_neg (by simpa using X),hl];rfl
  have z:(g+1)*ks.length<=xs.length*ks.length:=Nat.mul_le_mul_right _ hi;rw[Nat.add_mul]at z;have hroom:o+g*ks.length+off+cs.length<=C.size:=ω
  have F:=S.write (s:=s) (b:=b) (o:=o) (blk:=.arr sa ks xs) (blk':=.arr sa ks (xs.set g E)) (C:=C) (C':=dO C (o+g*ks.length+off) cs) (e:=e) (fr:=fr) (w':=fJ w b (dO C (o+g*ks.length+off) cs) e fr) I
   (by simp[Like]) N W rfl (gU hroom) rfl rfl rfl (λ_ B hself=>by
     refine .arr sa ks _ b o _ e fr N hself (by rw[gU hroom,List.length_set];exact Z) (Y.size (gU hroom)) ?_ ?_
     .grind
     .intro i y j c q Q;rw[qh hroom];by_cases p:i=g
      .subst p;rw[List.getElem?_set_self hi]at q;cases q;rcases hcell j c Q with⟨q1,L,K⟩ |⟨q1,c0,L,K⟩
       .grind
       .rw[if_neg ω];have D:xs[i]?=some (xs.getD i .nil):=by simp[hi]
        exact B _ _ ((K _ (R i _ j c0 D L)).plus ss)
      .rw[List.getElem?_set_ne (λe=>p e.symm)]at q;have hj':j<ks.length:=by have:=bV (G y (qLe q));grind
       rw[if_neg ?_]
       .exact B _ _ ((R i y j c q Q).plus ss)
       .rcases Nat.lt_or_gt_of_ne p with H |J
        .have:(i+1)*ks.length<=g*ks.length:=Nat.mul_le_mul_right _ H;grind
        .have:(g+1)*ks.length<=i*ks.length:=Nat.mul_le_mul_right _ J;grind)
  exact F.setEnv d (v:=.undef) (c:=undef) (.undef _)
theorem acY(ok:bJ P T)(r:Rel w0 Pr M0 M β st a w)(H:∀ s b,h' s=some b->look st.heap s=some b){p v:AV}{cp O:Value}
    (hp:AR w M β (look st.heap) p cp)(Q:AR w M β (look st.heap) v O):aI P w0 Pr M0 β st a w d (Lr T h' t p v) (do Instr.storeAt t cp O;pure .skip):=by
  unfold Lr;split
  . exact aI.fail
  . rename_i n hn;obtain⟨i,hi,hsz⟩:=ok.size hn;refine aI.chk λV=>?_;simp only[beq_iff_eq]at V;split
    . rename_i s q off;split
      . rename_i cs Y;have I:=H _ _ Y;refine aI.chk λS=>?_;simp only[qBa]at S;obtain⟨G,D,B⟩:=S;have B:=Nat.le_of_ble_eq_true B;obtain⟨g1,g2⟩:=Q.cells G;cases hp with
        | ptrA _ _ _ a' ks xs b o E N p3=>rw[I]at E;cases E
        | ptrT _ _ _ _ _ b E N=>rw[I]at E;cases E
        | ptrB _ _ cs' b o E N =>
         cases r.heap s _ I with
         | box _ b' o' C e fr k1 k2 k3 k4 k5 k6 =>
          rw[N]at k1;cases k1;have R:=cells_one (cs:=O.cells) λj g=>(g2 j _ (qLd (by omega))).2.2;have z:=qN (P:=P) (o:=o+off) hi (by omega) k2 k4 (by omega) R;refine aI.ret (h5:=λ_=>nN (.inr ⟨_,I,by simp only[Like];rw[oQ _ _ _ (by omega)]⟩)) (nv:=.skip) (c:=undef) (M':=M) (β':=β) (by simp only[Sem.run_bind,z,qRa,Sem.run_pure];rfl) (.inr ⟨rfl,rfl⟩) λ_=>?_;rw[qG];have hroom:o+off+O.cells.toList.length<=C.size:=by simp;omega
          have F:off+v.cells.length<=cs.length:=by omega
          have rw1:=r.write (s:=s) (b:=b) (o:=o) (blk:=.box cs) (blk':=.box (patch cs off v.cells)) (C:=C) (C':=dO C (o+off) O.cells.toList) (e:=e) (fr:=fr) (w':=fJ w b (dO C (o+off) O.cells.toList) e fr) I
           (by simp[Like,oQ _ _ _ F]) N k2 rfl (gU hroom) rfl rfl rfl (λJ hk2 hself=>by
             refine .box _ b o _ e fr N hself (by rw[gU hroom,oQ _ _ _ F];exact k3) (k4.size (gU hroom)) ?_ ?_
             . intro c hc;obtain⟨j,g⟩:=List.mem_iff_getElem?.1 hc;rw[xk _ _ _ F]at g;split at g
               . exact(g2 _ c g).2.1
               . exact k5 c (qLe g)
             . intro j c g;rw[xk _ _ _ F]at g;rw[qh hroom];simp only[Array.length_toList,g1];by_cases K:off<=j/\j<off+v.cells.length
               . rw[if_pos K]at g;rw[if_pos (by omega)];have e1:o+j-(o+off)=j-off:=by omega
                 rw[e1];have:=J _ _ (g2 _ c g).1;simpa using this
               . rw[if_neg K]at g;rw[if_neg (by omega)];exact J _ _ (k6 j c g))
          have:=rw1.setEnv d (v:=.undef) (c:=undef) (.undef _);exact this
      . rename_i a' ks xs Y;have I:=H _ _ Y;split
        . rename_i x ss hd;obtain⟨d1,d2⟩:=Gp (λs b h=>r.heap s b (H s b h)) H hd Q;cases hp with
          | ptrB _ _ cs' b o E N=>rw[I]at E;cases E
          | ptrT _ _ _ _ _ b E N=>rw[I]at E;cases E
          | ptrA _ _ _ a1 ks1 xs1 b o E N p3 =>
           rw[I]at E;cases E;cases r.heap s _ I with
           | gJ=>simp at N
           | arr _ _ _ b' o' C e fr k1 k2 k3 k4 k5 k6 =>
            rw[p3]at k1;cases k1;have hget:xs[q]?=some (xs.getD q .nil):=by simp[N]
            have hshape:=k5 _ (qLe hget);have hrow:(q+1)*ks.length<=xs.length*ks.length:=Nat.mul_le_mul_right _ N;rw[Nat.add_mul]at hrow;have hcs:∀(hx:∀ c∈x.cells,c.leaf=true),O.cells.size=x.cells.length/\∀(j:Nat) (y:PV),x.cells[j]?=some y->VR w (bg M β ss) y (O.cells.getD j undef):=by
             intro hx;cases x with
             | agg cs =>
              cases d1 with
              | agg _ vs hn hl2 hc2=>exact⟨by simpa[Value.cells,PV.cells] using hn,λj y g=>hc2 j y g⟩
             | _ =>
              have e:=d1.Iw rfl;refine⟨by rw[e];rfl,λj y g=>?_⟩;rw[e];cases j with
              | zero=>simp[PV.cells]at g;subst g;simpa using d1
              | succ j=>simp[PV.cells]at g
            have fin:∀(x':PV),(∀ c∈x.cells,c.leaf=true)->x.cells.length=n->off+n<=ks.length->s ∉ ss->aA a' ks x'=true ->
                (∀(j:Nat) (c:PV),x'.cells[j]?=some c->(off<=j/\j<off+n/\x.cells[j-off]?=some c)\/((j<off\/off+n<=j)/\∃ c0,(xs.getD q .nil).cells[j]?=some c0/\∀ v,VR w M c0 v->VR w M c v)) ->
                aI P w0 Pr M0 β st a w d (.ret {val:=.undef,ny:=[(s,.arr a' ks (xs.set q x'))],zK:=ss}) (do Instr.storeAt t (.pointer (some ⟨b,o+q*ks.length+off,none⟩)) O;pure .skip):=by
              intro x' U W hoff hns hx' hcell;obtain⟨c1,c2⟩:=hcs U;have R:=cells_one (cs:=O.cells) λj g=>by have hj':x.cells[j]?=some (x.cells[j]'(by omega)):=qLd _;exact(c2 j _ hj').one (U _ (qLe hj'))
              have z:=qN (P:=P) (o:=o+q*ks.length+off) hi (by omega) k2 k4 (by omega) R;exact aI.ret (h5:=λ_=>nN (.inr ⟨_,I,by simp[Like]⟩)) (nv:=.skip) (c:=undef) (w':=fJ w b (dO C (o+q*ks.length+off) O.cells.toList) e fr) (by simp only[Sem.run_bind,z,qRa,Sem.run_pure]) (.inr ⟨rfl,rfl⟩) λhf =>r.aho hf d2 hns I p3 k2 k3 k4 k5 k6 N (cs:=O.cells.toList) (by simp;omega) hoff hx' (λj y g=>by simpa using c2 j y g) W hcell
            cases a' with
            | true =>
             refine aI.chk λS=>?_;simp only[qBa,qBb]at S;obtain⟨G,D,B⟩:=S;have D:=Nat.le_of_ble_eq_true D;rw[dY]at B;obtain⟨m1,m2⟩:=fQ G;have W:x.cells.length=n:=by rw[<- m1];simp;omega
             have U:∀ c∈x.cells,c.leaf=true:=by intro c hc;obtain⟨j,g⟩:=List.mem_iff_getElem?.1 hc;have hjn:=(qLa.1 g).1;have J:((ks.drop off).take n)[j]?=some (((ks.drop off).take n)[j]'(by omega)):=qLd _;exact iG (m2 j _ c J g)
             have hel:(eY ks (xs.getD q .nil) 0).length=ks.length:=by
              have:∀(l:List Kd) (y:PV) (o:Nat),(eY l y o).length=l.length:=by
               intro l;induction l with
               | nil=>intros;rfl
               | cons k r ih=>intro y o;simp[eY,ih]
              exact this _ _ _
             have F:off+x.cells.length<=(eY ks (xs.getD q .nil) 0).length:=by omega
             have cell:∀(j:Nat) (c:PV),(patch (eY ks (xs.getD q .nil) 0) off x.cells)[j]?=some c->(off<=j/\j<off+n/\x.cells[j-off]?=some c) \/
                 ((j<off\/off+n<=j)/\∃ k c0,ks[j]?=some k/\(xs.getD q .nil).cells[j]?=some c0/\kindOk k c0=true/\c=eta k c0):=by
               intro j c g;rw[xk _ _ _ F]at g;by_cases K:off<=j/\j<off+x.cells.length
               . rw[if_pos K]at g;exact .inl ⟨K.1,by omega,g⟩
               . rw[if_neg K,qC]at g;cases J:ks[j]? with
                 | none=>rw[J]at g;simp at g
                 | some k =>rw[J]at g;simp only[Option.map_some,qNz,qOa]at g;obtain⟨c0,q1,q2,q3⟩:=rD hshape J;exact .inr ⟨by omega,k,c0,rfl,q1,q2,by rw[<- g,q3]⟩
             refine fin _ U W D B ?_ ?_
             . -- the shape of the new element
               have asf:=oQ _ _ _ F;have key:∀(l:List Kd) (vs:List PV),l.length=vs.length->(∀(j:Nat) (k:Kd) (v:PV),l[j]?=some k->vs[j]?=some v->kindOk k v=true)->bn l vs=true:=by
                intro l;induction l with
                | nil=>intro vs h _;have:vs=[]:=by simpa using h.symm
                       subst this;rfl
                | cons k l ih =>
                 intro vs h Z;cases vs with
                 | nil=>simp at h
                 | cons v vs =>simp only[bn,qBa];exact⟨Z 0 k v (by simp) (by simp),ih vs (by simpa using h) λj k v J Q=>Z (j+1) k v (by simpa using J) (by simpa using Q)⟩
               show bn ks (patch (eY ks (xs.getD q .nil) 0) off x.cells)=true;refine key _ _ (by omega) λj k v J Q=>?_;rcases cell j v Q with⟨q1,q2,q3⟩ |⟨q1,k',c0,q2,q3,q4,rfl⟩
               . have:((ks.drop off).take n)[j-off]?=some k:=by rw[List.getElem?_take,if_pos (by omega),List.getElem?_drop];rw[show off+(j-off)=j from by omega];exact J
                 exact m2 _ _ _ this q3
               . rw[J]at q2;cases q2;exact afj q4
             . intro j c g;rcases cell j c g with h |⟨q1,k',c0,q2,q3,q4,rfl⟩
               . exact .inl h
               . exact .inr ⟨q1,c0,q3,λv Q=>yA q4 Q⟩
            | false =>
             refine aI.chk λS=>?_;simp only[qBa,qBb]at S;obtain⟨G,D,B,hb4⟩:=S;have D:=Nat.eq_of_beq_eq_true D;have B:=Nat.eq_of_beq_eq_true B;rw[dY]at hb4;have hsl:=bV G;have hk1:ks.length=1/\x.leaf=true:=by
              match ks,G with
              |[k],h=>exact⟨rfl,iG (by simpa[aA] using h)⟩
             have X:x.cells=[x]:=by have:=hk1.2;cases x<;>first | rfl | simp[PV.leaf]at this
             refine fin x (by rw[X];simpa using hk1.2) (by rw[X,B];rfl) (by omega) hb4 G ?_;intro j c g;have:=(qLa.1 g).1;have hj0:j=0:=by rw[X]at this;simpa using this
             subst hj0;refine .inl ⟨by omega,by omega,?_⟩;simpa[D] using g
        . exact aI.fail
      . exact aI.fail
    . rename_i k b0;split
      . rename_i j a0;refine aI.chk λS=>?_;simp only[qBa,beq_iff_eq,qDa]at S;obtain⟨rfl,rfl⟩:=S;have hn1:n=1:=by simpa[AV.cells,PV.cells] using V.symm
        cases hp with
        | p _ _ hp=>cases hp with
        | ref _ b o f hM I hc hvv ho =>
         cases Q with
         | p _ _ Q =>
          cases Q;obtain⟨C,e,fr,h1,Z,h3⟩:=ho.get;have Z:o+1<=C.size:=Z;have hlt:o<C.size:=Z;have h0:=hvv 0 _ rfl;have hc0:=hc 0 _ rfl;simp only[Nat.add_zero]at hc0;have e0:f 0=.int j a0:=by generalize f 0=y at h0;cases h0;rfl
          have hval:C[o]=.int j a0:=by have:=pY (b:=b) (i:=o) h1 (by omega);rw[hc0,e0]at this;simpa[qAb,qAd hlt] using this.symm
          have z:=qN (P:=P) (o:=o) (c:=.int j a0) hi (by rw[hsz,hn1];rfl) h1 h3 (show o+1<=C.size from Z) (λu hu=>by simp[Value.cells]at hu;rw[hu];rfl);have hw:fJ w b (dO C o (Value.int j a0).cells.toList) e fr=w:=by
           have e1:dO C o (Value.int j a0).cells.toList=C:=by
            apply Array.ext
            . rw[gU (by simp[Value.cells];omega)]
            . intro i h4 h5;have:=qh (C:=C) (k:=o) (vs:=(Value.int j a0).cells.toList) (by simp[Value.cells];omega) i;rw[qAb,qAd h4,Option.getD_some]at this;rw[this];by_cases L:o<=i/\i<o+(Value.int j a0).cells.toList.length
              . rw[if_pos L];have:i=o:=by have h:=L.2;simp[Value.cells]at h;omega
                subst this;rw[hval];simp[Value.cells]
              . rw[if_neg L,qAb,qAd h5];rfl
           rw[e1,fJ];have:w.heap.setIfInBounds b (Obj.cells C e fr)=w.heap:=by
            apply Array.ext
            . simp
            . intro i h4 h5;by_cases L:b=i
              . subst L;rw[qAd h5]at h1;simpa using (Option.some.inj h1).symm
              . rw[Array.getElem_setIfInBounds_ne h5 L]
           rw[this]
          rw[hw]at z;refine aI.ret (w':=w) (h5:=λ_=>Di) (nv:=.skip) (c:=undef) (M':=M) (β':=β) (by simp only[Sem.run_bind,z,qRa,Sem.run_pure]) (.inr ⟨rfl,rfl⟩) λ_=>?_;exact r.setEnv d (v:=.undef) (c:=undef) (.undef _)
      . exact aI.fail
    . exact aI.fail
end
end
end Go.Skm
