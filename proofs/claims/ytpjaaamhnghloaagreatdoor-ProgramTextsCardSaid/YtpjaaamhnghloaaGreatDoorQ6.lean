import Derived.Test.YtpjaaamhnghloaaGreatDoorQQ
set_option linter.all false
namespace Go.Skm.Prg
open Go Go.Skm Go.Proofs Go.RowKit Go.Shelf
variable {A B C w0:World}{p q:Option Nat}{post pre:List Rw}{r s:Rw}{n1 n2:List Value}{iA iB jA jB:Nat}{L:Nat -> Bool}
structure oW (w w':World) (p q:Option Nat):Prop where
 os:w'.os=w.os
 tape:w'.tape=w.tape
 output:w'.output=w.output
 size:w.heap.size<=w'.heap.size
 block:∀k,k<w.heap.size->some k≠p->some k≠q->w'.heap[k]?=w.heap[k]?
theorem oW.left(h:oW A B p q)(k:B.grownBy C p):oW A C p q:=
 ⟨k.os.trans h.os,k.tape.trans h.tape,k.output.trans h.output,Nat.le_trans h.size k.size,λb a c d=>(k.block b (Nat.lt_of_lt_of_le a h.size) c).trans (h.block b a c d)⟩
theorem oW.right(h:oW A B p q)(k:B.grownBy C q):oW A C p q:=
 ⟨k.os.trans h.os,k.tape.trans h.tape,k.output.trans h.output,Nat.le_trans h.size k.size,λb a d c=>(k.block b (Nat.lt_of_lt_of_le a h.size) c).trans (h.block b a d c)⟩
theorem oW.cell{A B:World}{p q:Option Nat}(h:oW A B p q){a:Addr}{x:Value}(b:A.cell? a=some x)(d:p≠some a.block)(c:q≠some a.block):B.cell? a=some x:=
 (World.cell?_of_block (h.block a.block (World.block_lt_of_cell? A a b) d.symm c.symm)).trans b
structure acG (w0:World) (B:Nat) (pre post:List Rw) (r s:Rw) (n1 n2:List Value) (iB iA jB jA:Nat) (L:Nat->Bool) (val:Nat->Value) (w:World):Prop where
 grown:oW w0 w r.v.ownBlock s.v.ownBlock
 f1:L iB=true->∃b,val iB=.slice (some ⟨b,0,none⟩) 1 1/\w0.heap.size<=b/\b<w.heap.size/\(L iA=false->w.heap[b]?=some (.cells n1.toArray r.e (0,0)))
 f2:L jB=true->∃b,val jB=.slice (some ⟨b,0,none⟩) 1 1/\w0.heap.size<=b/\b<w.heap.size/\(L jA=false->w.heap[b]?=some (.cells n2.toArray s.e (0,0)))
 rows:xU w B (pre++(bif L iA then⟨r.e,r.z,val iA,r.n+1,r.cs++n1⟩ else r)::(bif L jA then⟨s.e,s.z,val jA,s.n+1,s.cs++n2⟩ else s)::post)
 o1:L iA=true->(val iA).cells=#[val iA]/\(val iA).oneCell'=true/\∀g,(val iA).ownBlock=some g->r.v.ownBlock=some g\/w0.heap.size<=g
 o2:L jA=true->(val jA).cells=#[val jA]/\(val jA).oneCell'=true/\∀g,(val jA).ownBlock=some g->s.v.ownBlock=some g\/w0.heap.size<=g
theorem acG.turn{B:Nat}{L':Nat->Bool}{val a:Nat->Value}{w:World}(h:acG w0 B pre post r s n1 n2 iB iA jB jA L val w)
    (e:∀k,k=iB\/k=iA\/k=jB\/k=jA->L' k=L k/\a k=val k):acG w0 B pre post r s n1 n2 iB iA jB jA L' a w:=by
  obtain⟨i,g⟩:=e iB (.inl rfl);obtain⟨b1,d⟩:=e iA (.inr (.inl rfl));obtain⟨c1,f⟩:=e jB (.inr (.inr (.inl rfl)));obtain⟨b,c⟩:=e jA (.inr (.inr (.inr rfl)));exact⟨h.grown,λq=>by rw[g,b1];exact h.f1 (i▸q),λq=>by rw[f,b];exact h.f2 (c1▸q),by rw[b1,d,b,c];exact h.rows,λq=>by rw[d];exact h.o1 (b1▸q),λq=>by rw[c];exact h.o2 (b▸q)⟩
def La(ops:Array Oper)(i j:Nat):Bool:=waits ops i j||(List.range ops.size).any λk=>waits ops i k&&waits ops k j
theorem PU{ops:Array Oper}{i j:Nat}{o:Oper}(h:La ops i j=true)(b:ops[i]?=some o)(d:∀e∈o.after.toList,Region.binds .any e=true->L e.on=true)(f:Shut ops L):L j=true:=by
 unfold La at h;rw[Bool.or_eq_true]at h;rcases h with h |h
 .exact pW h b d
 .obtain⟨k,_,a⟩:=List.any_eq_true.1 h;simp only[qBa]at a;obtain⟨ok,c⟩:=Bo a.2;exact pW a.2 c (f k ok c (pW a.1 b d))
section
variable {F:Fence}{n:Nat}{P:Program}{ops:Array Oper}{Q:Exit->Act->World->Prop}
set_option maxHeartbeats 2000000 in
theorem aeW(hm:P.follows .mixedOrders=true)(hb:JB ops=true){a0:Act}(hok:Il ops a0.tmps.size=true)(kv:Nat->Value)(rd:Nat->Bool){iS jS:Nat}(hne:[iB,iA,iS,jB,jA,jS].Nodup)
    {B:Nat}{sa sb:Addr}(hR:xU w0 B (pre++r::s::post))(hbase:B<=w0.heap.size)
    (t:TypeId)(i:TypeInfo)(zv:Value)(bytes:Nat)(ht:P.underlying t=some (.slice r.e))(hi:P.info? r.e=some i)(hz:i.zero=some zv)(hsize:i.size=r.z)(hby:i.bytes=bytes)(hzs:zv.cells.size=r.z)(hsz:0<r.z)(hbb:bytes<=1000)
    (u:TypeId)(j:TypeInfo)(yv:Value)(bytes':Nat)(hu:P.underlying u=some (.slice s.e))(hj:P.info? s.e=some j)(hy:j.zero=some yv)(hsize':j.size=s.z)(aqA:j.bytes=bytes')(hys:yv.cells.size=s.z)(hsy:0<s.z)(aqB:bytes'<=1000)
    (hl:n1.length=r.z)(h1:∀u∈n1,u.oneCell'=true)(hn:r.n+1<=1000000)(hl':n2.length=s.z)(h1':∀u∈n2,u.oneCell'=true)(hn':s.n+1<=1000000)
    (hw:waits ops iA iB=true)(hw':waits ops jA jB=true)(hA:La ops iS iA=true)(hA':La ops iS jA=true)(aqC:((List.range ops.size).all λk=>!rd k||La ops iS k)=true)(hS:waits ops jS iS=true)
    (quiet:∀(L:Nat->Bool) (val:Nat->Value) (a:Act) (w:World) (k:Nat) (o:Oper),ops[k]?=some o->k ∉ [iB,iA,iS,jB,jA,jS]->(∀e∈o.after.toList,Region.binds .any e=true->L e.on=true)->(∀k,L k=true->k ∉ [iB,iA,iS,jB,jA,jS]->val k=kv k)->Ik ops o a0 a val ->
      (rd k=true->∀ad x,w0.cell? ad=some x->r.v.ownBlock≠some ad.block->s.v.ownBlock≠some ad.block->w.cell? ad=some x) ->
      Region.wanted o (yielded ops a.tmps)=true/\o.about P w a.eval=none/\(∀c,o.op≠.defer c)/\(execOp a.eval o).run P w=.ok (.value (kv k)) w)
    (build:∀(L:Nat->Bool) (val:Nat->Value) (a:Act) (w:World) (k:Nat) (o:Oper),ops[k]?=some o->k=iB\/k=jB->(∀e∈o.after.toList,Region.binds .any e=true->L e.on=true)->(∀k,L k=true->k ∉ [iB,iA,iS,jB,jA,jS]->val k=kv k)->Ik ops o a0 a val ->
      Region.wanted o (yielded ops a.tmps)=true/\o.about P w a.eval=none/\(∀c,o.op≠.defer c)/\(execOp a.eval o).run P w=.ok (.value (.slice (some ⟨w.heap.size,0,none⟩) 1 1)) (w.alloc (if k=iB then .cells n1.toArray r.e else .cells n2.toArray s.e)))
    (app:∀(L:Nat->Bool) (val:Nat->Value) (a:Act) (w:World) (k:Nat) (o:Oper),ops[k]?=some o->k=iA\/k=jA->(∀e∈o.after.toList,Region.binds .any e=true->L e.on=true)->(∀k,L k=true->k ∉ [iB,iA,iS,jB,jA,jS]->val k=kv k)->Ik ops o a0 a val ->
      Region.wanted o (yielded ops a.tmps)=true/\o.about P w a.eval=none/\(∀c,o.op≠.defer c)/\∀v' w',(if k=iA then(Builtin.append_ #[t,t] t #[r.v,val iB]).run P w=.ok v' w' else(Builtin.append_ #[u,u] u #[s.v,val jB]).run P w=.ok v' w')->(execOp a.eval o).run P w=.ok (.value v') w')
    (store:∀(L:Nat->Bool) (val:Nat->Value) (a:Act) (w:World) (o:Oper),ops[iS]?=some o->(∀e∈o.after.toList,Region.binds .any e=true->L e.on=true)->(∀k,L k=true->k ∉ [iB,iA,iS,jB,jA,jS]->val k=kv k)->Ik ops o a0 a val->(val iA).cells=#[val iA]->(val iA).oneCell'=true ->
      oW w0 w r.v.ownBlock s.v.ownBlock->Region.wanted o (yielded ops a.tmps)=true/\o.about P w a.eval=none/\(∀c,o.op≠.defer c)/\(execOp a.eval o).run P w=.ok .skip (w.setCell sa (val iA)))
    (store':∀(L:Nat->Bool) (val:Nat->Value) (a:Act) (l:World) (o:Oper),ops[jS]?=some o->(∀e∈o.after.toList,Region.binds .any e=true->L e.on=true)->(∀k,L k=true->k ∉ [iB,iA,iS,jB,jA,jS]->val k=kv k)->Ik ops o a0 a val->(val jA).cells=#[val jA]->(val jA).oneCell'=true ->
      oW w0 l r.v.ownBlock s.v.ownBlock->Region.wanted o (yielded ops a.tmps)=true/\o.about P (l.setCell sa (val iA)) a.eval=none/\(∀c,o.op≠.defer c)/\(execOp a.eval o).run P (l.setCell sa (val iA))=.ok .skip ((l.setCell sa (val iA)).setCell sb (val jA)))
    (fin:∀(val:Nat->Value) (a:Act) (w:World),Ups ops val a0 (λ_=>true) a->oW w0 w r.v.ownBlock s.v.ownBlock->xU w B (pre++⟨r.e,r.z,val iA,r.n+1,r.cs++n1⟩::⟨s.e,s.z,val jA,s.n+1,s.cs++n2⟩::post) ->
      (∀g,(val iA).ownBlock=some g->r.v.ownBlock=some g\/w0.heap.size<=g)->(∀g,(val jA).ownBlock=some g->s.v.ownBlock=some g\/w0.heap.size<=g)->Q .normal a ((w.setCell sa (val iA)).setCell sb (val jA))){id:Nat}:(Code.region id ops true).wpIn F n P Q a0 w0:=by
  have hrd:∀k,k<ops.size->rd k=true->La ops iS k=true:=λk M Z=>by have:=List.all_eq_true.1 aqC k (List.mem_range.2 M);rw[Z]at this;simpa using this
  simp only[List.nodup_cons,List.mem_cons,List.not_mem_nil,or_false,not_or,List.nodup_nil,not_false_eq_true,and_true]at hne;obtain⟨⟨x1,x2,x3,x4,x5⟩,⟨y1,y2,N,y4⟩,⟨z1,z2,z3⟩,⟨u1,u2⟩,u3⟩:=hne;let Kn:Nat->Bool:=λk=>!([iB,iA,iS,jB,jA,jS].contains k);have kn:∀k,Kn k=true↔k ∉ [iB,iA,iS,jB,jA,jS]:=λk=>by simp[Kn]
  have kn0:∀k,Kn k=false->k=iB\/k=iA\/k=iS\/k=jB\/k=jA\/k=jS:=λk h=>by refine Classical.byContradiction λq=>?_;rw[(kn k).2 (by simp only[List.mem_cons,List.not_mem_nil,or_false];exact q)]at h;cases h
  have kne:∀{k},Kn k=true->∀q,q=iB\/q=iA\/q=jB\/q=jA->q≠k:=λ{k} M q hq e=>(kn k).1 M (by subst e;rcases hq with rfl|rfl|rfl|rfl<;>simp)
  let J:(Nat->Bool)->(Nat->Value)->World->Prop:=λL val w=>(L iS=false/\L jS=false/\acG w0 B pre post r s n1 n2 iB iA jB jA L val w) \/
   (L iS=true/\L iA=true/\L jA=true/\L iB=true/\L jB=true/\(∀k,k<ops.size->rd k=true->L k=true)/\∃l,acG w0 B pre post r s n1 n2 iB iA jB jA L val l/\w=bif L jS then(l.setCell sa (val iA)).setCell sb (val jA)else l.setCell sa (val iA))
  have kK:∀{L:Nat->Bool}{val:Nat->Value},(∀k,L k=true->Kn k=true->val k=kv k)->∀k,L k=true->k ∉ [iB,iA,iS,jB,jA,jS]->val k=kv k:=λh k h0 h1=>h k h0 ((kn k).2 h1);have aeX:∀{k o},ops[k]?=some o->k<ops.size:=λh=>(qAa.1 h).1;have ahQ:∀{b:Nat},w0.heap.size<=b->xU w0 B (pre++r::s::post)->r.v.ownBlock≠some b/\s.v.ownBlock≠some b:=λ{b} hb hR=>by
   constructor
   .intro e;have:=(hR.lt (r:=r) σ e).2;omega
   .intro e;have:=(hR.lt (r:=s) σ e).2;omega
  refine FY Kn kv J hm hb hok (λL val w k hk0 M G hJ=>?_) (λL val a w k o y M G E hK hs hJ=>?_) (λL val a w k o y M G E T hK hs hJ=>?_) (.inl ⟨rfl,rfl,?_⟩) λL val a w hall hK hU hJ=>?_
  .have keep:∀q,q=iB\/q=iA\/q=jB\/q=jA->(L q || q == k)=L q/\(if q=k then kv k else val q)=val q:=λq hq=>by have:=kne M q hq;exact⟨by rw[show(q==k)=false by simpa using this,Bool.or_false],if_neg this⟩
   have hkS:iS≠k:=λe=>(kn k).1 M (by simp[e]);have hkT:jS≠k:=λe=>(kn k).1 M (by simp[e]);have eS:(L iS||iS==k)=L iS:=by rw[show(iS==k)=false by simpa using hkS,Bool.or_false]
   have eT:(L jS||jS==k)=L jS:=by rw[show(jS==k)=false by simpa using hkT,Bool.or_false]
   rcases hJ with⟨q1,D,h⟩ |⟨q1,D,Y,q4,q5,q6,l,h,rfl⟩
   .exact .inl ⟨eS.trans q1,eT.trans D,h.turn keep⟩
   .refine .inr ⟨eS.trans q1,(keep iA σ).1.trans D,(keep jA σ).1.trans Y,(keep iB σ).1.trans q4,(keep jB σ).1.trans q5,λc hc Z=>?_,l,h.turn keep,?_⟩
    .show(L c||c==k)=true;rw[q6 c hc Z];rfl
    .show _=bif (L jS||jS==k)then(l.setCell sa (if iA=k then kv k else val iA)).setCell sb (if jA=k then kv k else val jA)else l.setCell sa (if iA=k then kv k else val iA)
     rw[eT,(keep iA σ).2,(keep jA σ).2]
  .refine quiet L val a w k o y ((kn k).1 M) E (kK hK) hs λhrk=>?_;rcases hJ with⟨_,_,h⟩ |⟨_,_,_,_,_,q6,_⟩
   .exact λad x h1 h2 h3=>h.grown.cell h1 h2 h3
   .rw[q6 k (aeX y) hrk]at G;cases G
  .have stage:L iS=false->acG w0 B pre post r s n1 n2 iB iA jB jA L val w/\L jS=false:=λq=>by
     rcases hJ with⟨_,D,h⟩ |⟨q1,_⟩
     .exact⟨h,D⟩
     .rw[q]at q1;cases q1
   have aqD:k≠jS->L iS=false:=λU=>by
    rcases hJ with⟨q1,_⟩ |⟨q1,D,Y,q4,q5,_⟩
    .exact q1
    .rcases kn0 k M with rfl|rfl|rfl|rfl|rfl|rfl
     .rw[G]at q4;cases q4
     .rw[G]at D;cases D
     .exact G
     .rw[G]at q5;cases q5
     .rw[G]at Y;cases Y
     .exact absurd rfl U
   have f:∀{x:Nat},x≠k->(L x||x==k)=L x:=λ{x} hx=>by rw[show(x==k)=false by simpa using hx,Bool.or_false]
   have tt:(L k||k==k)=true:=σ
   by_cases U:k=jS
   .subst U;have hiS:L iS=true:=pW hS y E;rcases hJ with⟨q1,_⟩ |⟨q1,D,Y,q4,q5,q6,l,h,rfl⟩
    .rw[hiS]at q1;cases q1
    .simp only[G,qCf];obtain⟨X,K,_⟩:=h.o2 Y;obtain⟨S,R,O,I⟩:=store' L val a l o y E (kK hK) hs X K h.grown;refine⟨S,R,O,undef,_,.inr ⟨rfl,I⟩,.inr ⟨(f z3).trans q1,(f y4).trans D,(f u3).trans Y,(f x5).trans q4,(f u2).trans q5,λc hc Z=>?_,l,h.turn λq hq=>?_,?_⟩⟩
     .show(L c||c==k)=true;rw[q6 c hc Z];rfl
     .have:q≠k:=by rcases hq with rfl|rfl|rfl|rfl<;>assumption
      exact⟨f this,if_neg this⟩
     .show _=bif (L k||k==k)then(l.setCell sa (if iA=k then undef else val iA)).setCell sb (if jA=k then undef else val jA)else _
      rw[tt,qCt,if_neg y4,if_neg u3]
   .have W:=aqD U;obtain⟨h,V⟩:=stage W;rcases kn0 k M with rfl|rfl|rfl|rfl|rfl|rfl
    .obtain⟨S,R,O,I⟩:=build L val a w k o y (.inl rfl) E (kK hK) hs;rw[if_pos rfl]at I;refine⟨S,R,O,_,_,.inl I,.inl ⟨(f (Ne.symm x2)).trans W,(f (Ne.symm x5)).trans V,⟨h.grown.left (Eo _ _ _),λ_=>⟨w.heap.size,if_pos rfl,h.grown.size,σ,λ_=>World.alloc_heap_new w _⟩,λq=>?_,?_,λq=>?_,λq=>?_⟩⟩⟩
     .obtain⟨b,X,K,e3,e4⟩:=h.f2 ((f (Ne.symm x3))▸q);exact⟨b,(if_neg (Ne.symm x3)).trans X,K,by simp;omega,λH=>(Below.heap_alloc w _ b e3).trans (e4 ((f (Ne.symm x4))▸H))⟩
     .show xU _ B (pre++(bif (L iA||iA==k)then⟨r.e,r.z,(if iA=k then _ else val iA),r.n+1,r.cs++n1⟩else r)::(bif (L jA||jA==k)then⟨s.e,s.z,(if jA=k then _ else val jA),s.n+1,s.cs++n2⟩else s)::post);rw[f (Ne.symm x1),f (Ne.symm x4),if_neg (Ne.symm x1),if_neg (Ne.symm x4)];exact h.rows.grows λb hb=>Below.heap_alloc w _ b hb
     .have:=h.o1 ((f (Ne.symm x1))▸q);rw[show(if iA=k then(Value.slice (some ⟨w.heap.size,0,none⟩) 1 1)else val iA)=val iA from if_neg (Ne.symm x1)];exact this
     .have:=h.o2 ((f (Ne.symm x4))▸q);rw[show(if jA=k then(Value.slice (some ⟨w.heap.size,0,none⟩) 1 1)else val jA)=val jA from if_neg (Ne.symm x4)];exact this
    .obtain⟨S,R,O,I⟩:=app L val a w k o y (.inl rfl) E (kK hK) hs;have hB:L iB=true:=pW hw y E;obtain⟨b,e,hb0,hbl,hcell⟩:=h.f1 hB;have hcell:=hcell G;have hrows:=h.rows;rw[G,qCf]at hrows;obtain⟨v',w',r1,r2,r3,r4,r5,r6⟩:=hrows.append (P:=P) t i zv bytes ht hi hz hsize hby hzs hsz (a:=⟨b,0,none⟩) (m:=1) (c:=1) (news:=n1) (by rw[hl,Nat.one_mul]) (λj u hu=>by rw[Addr.add_lit];simp[World.cell?,hcell,hu]) h1 hn hbb (Nat.le_trans hbase h.grown.size);refine⟨S,R,O,v',w',.inl (I v' w' (by rw[if_pos rfl,e];exact r1)),.inl ⟨(f (Ne.symm y1)).trans W,(f (Ne.symm y4)).trans V,⟨h.grown.left r3,λ_=>⟨b,(if_neg x1).trans e,hb0,Nat.lt_of_lt_of_le hbl r3.size,λH=>by rw[tt]at H;cases H⟩,λq=>?_,?_,λ_=>?_,λq=>?_⟩⟩⟩
     .obtain⟨c,X,K,e3,e4⟩:=h.f2 ((f (Ne.symm y2))▸q);exact⟨c,(if_neg (Ne.symm y2)).trans X,K,Nat.lt_of_lt_of_le e3 r3.size,λH=>(r3.block c e3 λe=>(ahQ K hR).1 e.symm).trans (e4 ((f (Ne.symm N))▸H))⟩
     .show xU _ B (pre++(bif (L k||k==k)then⟨r.e,r.z,(if k=k then v' else val k),r.n+1,r.cs++n1⟩else r)::(bif (L jA||jA==k)then⟨s.e,s.z,(if jA=k then v' else val jA),s.n+1,s.cs++n2⟩else s)::post);rw[tt,f (Ne.symm N),if_pos rfl,if_neg (Ne.symm N)];exact r2
     .rw[show(if k=k then v' else val k)=v' from if_pos rfl];exact⟨r4,r5,λg hg=>(r6 g hg).imp (λq=>q) λhh=>Nat.le_trans h.grown.size hh⟩
     .have:=h.o2 ((f (Ne.symm N))▸q);rw[show(if jA=k then v' else val jA)=val jA from if_neg (Ne.symm N)];exact this
    .have qA:=PU hA y E T;have qA':=PU hA' y E T;obtain⟨oA,hoA⟩:=Bo hw;obtain⟨oA',alP⟩:=Bo hw';have qB:=pW hw hoA (T _ _ hoA qA);have qB':=pW hw' alP (T _ _ alP qA');obtain⟨X,K,_⟩:=h.o1 qA;obtain⟨S,R,O,I⟩:=store L val a w o y E (kK hK) hs X K h.grown;refine⟨S,R,O,undef,_,.inr ⟨rfl,I⟩,.inr ⟨tt,(f y1).trans qA,(f (Ne.symm z2)).trans qA',(f x2).trans qB,(f (Ne.symm z1)).trans qB',λc hc Z=>?_,w,h.turn λq hq=>?_,?_⟩⟩
     .show(L c||c==k)=true;rw[PU (hrd c hc Z) y E T];rfl
     .have:q≠k:=by rcases hq with rfl|rfl|rfl|rfl<;>first |assumption |exact Ne.symm (by assumption)
      exact⟨f this,if_neg this⟩
     .show _=bif (L jS||jS==k)then _ else w.setCell sa (if iA=k then undef else val iA)
      rw[f (Ne.symm z3),V,qCf,if_neg y1]
    .obtain⟨S,R,O,I⟩:=build L val a w k o y (.inr rfl) E (kK hK) hs;rw[if_neg (Ne.symm x3)]at I;refine⟨S,R,O,_,_,.inl I,.inl ⟨(f z1).trans W,(f (Ne.symm u2)).trans V,⟨h.grown.left (Eo _ _ _),λq=>?_,λ_=>⟨w.heap.size,if_pos rfl,h.grown.size,σ,λ_=>World.alloc_heap_new w _⟩,?_,λq=>?_,λq=>?_⟩⟩⟩
     .obtain⟨b,X,K,e3,e4⟩:=h.f1 ((f x3)▸q);exact⟨b,(if_neg x3).trans X,K,by simp;omega,λH=>(Below.heap_alloc w _ b e3).trans (e4 ((f y2)▸H))⟩
     .show xU _ B (pre++(bif (L iA||iA==k)then⟨r.e,r.z,(if iA=k then _ else val iA),r.n+1,r.cs++n1⟩else r)::(bif (L jA||jA==k)then⟨s.e,s.z,(if jA=k then _ else val jA),s.n+1,s.cs++n2⟩else s)::post);rw[f y2,f (Ne.symm u1),if_neg y2,if_neg (Ne.symm u1)];exact h.rows.grows λb hb=>Below.heap_alloc w _ b hb
     .have:=h.o1 ((f y2)▸q);rw[show(if iA=k then(Value.slice (some ⟨w.heap.size,0,none⟩) 1 1)else val iA)=val iA from if_neg y2];exact this
     .have:=h.o2 ((f (Ne.symm u1))▸q);rw[show(if jA=k then(Value.slice (some ⟨w.heap.size,0,none⟩) 1 1)else val jA)=val jA from if_neg (Ne.symm u1)];exact this
    .obtain⟨S,R,O,I⟩:=app L val a w k o y (.inr rfl) E (kK hK) hs;have hB:L jB=true:=pW hw' y E;obtain⟨b,e,hb0,hbl,hcell⟩:=h.f2 hB;have hcell:=hcell G;have hrows:=h.rows;rw[G,qCf]at hrows;have hrows2:xU w B ((pre++[bif L iA then⟨r.e,r.z,val iA,r.n+1,r.cs++n1⟩else r])++s::post):=by simpa using hrows
     obtain⟨v',w',r1,r2,r3,r4,r5,r6⟩:=hrows2.append (P:=P) u j yv bytes' hu hj hy hsize' aqA hys hsy (a:=⟨b,0,none⟩) (m:=1) (c:=1) (news:=n2) (by rw[hl',Nat.one_mul]) (λj u hu=>by rw[Addr.add_lit];simp[World.cell?,hcell,hu]) h1' hn' aqB (Nat.le_trans hbase h.grown.size);refine⟨S,R,O,v',w',.inl (I v' w' (by rw[if_neg (Ne.symm N),e];exact r1)),.inl ⟨(f z2).trans W,(f (Ne.symm u3)).trans V,⟨h.grown.right r3,λq=>?_,λ_=>⟨b,(if_neg u1).trans e,hb0,Nat.lt_of_lt_of_le hbl r3.size,λH=>by rw[tt]at H;cases H⟩,?_,λq=>?_,λ_=>?_⟩⟩⟩
     .obtain⟨c,X,K,e3,e4⟩:=h.f1 ((f x4)▸q);exact⟨c,(if_neg x4).trans X,K,Nat.lt_of_lt_of_le e3 r3.size,λH=>(r3.block c e3 λe=>(ahQ K hR).2 e.symm).trans (e4 ((f N)▸H))⟩
     .show xU _ B (pre++(bif (L iA||iA==k)then⟨r.e,r.z,(if iA=k then v' else val iA),r.n+1,r.cs++n1⟩else r)::(bif (L k||k==k)then⟨s.e,s.z,(if k=k then v' else val k),s.n+1,s.cs++n2⟩else s)::post);rw[tt,f N,if_pos rfl,if_neg N];simpa using r2
     .have:=h.o1 ((f N)▸q);rw[show(if iA=k then v' else val iA)=val iA from if_neg N];exact this
     .rw[show(if k=k then v' else val k)=v' from if_pos rfl];exact⟨r4,r5,λg hg=>(r6 g hg).imp (λq=>q) λhh=>Nat.le_trans h.grown.size hh⟩
    .exact absurd rfl U
  .exact⟨⟨rfl,rfl,rfl,qNr _,λ_ _ _ _=>rfl⟩,λh=>(by cases h),λh=>(by cases h),hR.keep λ_ _ _ _=>rfl,λh=>(by cases h),λh=>(by cases h)⟩
  .obtain⟨oS,hoS⟩:=Bo hS;have hT:=hall jS (aeX hoS);rcases hJ with⟨_,D,_⟩ |⟨q1,D,Y,q4,q5,q6,l,h,rfl⟩
   .rw[hT]at D;cases D
   .have Z:=h.rows;rw[D,Y,qCt,qCt]at Z;simp only[hT,qCt];exact fin val a l ⟨hU.size,hU.defers,hU.keep,λi o d y hd _=>hU.got i o d y hd (hall i (aeX y))⟩ h.grown Z (h.o1 D).2.2 (h.o2 Y).2.2
end
end Go.Skm.Prg
