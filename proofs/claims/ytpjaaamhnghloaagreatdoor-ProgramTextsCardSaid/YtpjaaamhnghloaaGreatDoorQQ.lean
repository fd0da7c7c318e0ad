import Derived.Test.YtpjaaamhnghloaaGreatDoorQ2
import Derived.Test.YtpjaaamhnghloaaGreatDoorP21
import Derived.Test.YtpjaaamhnghloaaGreatDoorSkmG
set_option linter.all false
namespace Go.Skm.Prg
open Go Go.Skm
section
open Go.Proofs Go.RowKit Go.Shelf
variable {B i iA iB j:Nat}{o:Option Nat}{w0:World}{post pre:List Rw}{r:Rw}{news:List Value}{L:Nat->Bool}{ops:Array Oper}
theorem MW{A B C:World}(h:A.grownBy B o)(k:B.grownBy C o):A.grownBy C o:=
 ⟨k.os.trans h.os,k.tape.trans h.tape,k.output.trans h.output,Nat.le_trans h.size k.size,λb c a=>(k.block b (Nat.lt_of_lt_of_le c h.size) a).trans (h.block b c a)⟩
theorem Eo(W:World)(x:Obj)(o:Option Nat):W.grownBy (W.alloc x) o:=⟨rfl,rfl,rfl,σ,λb a _=>Below.heap_alloc W x b a⟩
theorem ZB{W W':World}(h:W.grownBy W' o){b:Addr}{x:Value}(c:W.cell? b=some x)(a:o≠some b.block):W'.cell? b=some x:=
 h.cell c λe=>a e.symm
structure aeK (w0:World) (B:Nat) (pre post:List Rw) (r:Rw) (news:List Value) (iB iA:Nat) (L:Nat->Bool) (val:Nat->Value) (w:World):Prop where
 grown:w0.grownBy w r.v.ownBlock
 fresh:L iB=true->∃b,val iB=.slice (some ⟨b,0,none⟩) 1 1/\w0.heap.size<=b/\b<w.heap.size/\(L iA=false->w.heap[b]?=some (.cells news.toArray r.e (0,0)))
 rows:xU w B (pre++(bif L iA then⟨r.e,r.z,val iA,r.n+1,r.cs++news⟩ else r)::post)
 one:L iA=true->(val iA).cells=#[val iA]/\(val iA).oneCell'=true/\∀g,(val iA).ownBlock=some g->r.v.ownBlock=some g\/w0.heap.size<=g
theorem aeK.turn{L':Nat->Bool}{val a:Nat->Value}{w:World}(h:aeK w0 B pre post r news iB iA L val w)(d:L' iB=L iB)(b:L' iA=L iA)(e3:a iB=val iB)(c:a iA=val iA):aeK w0 B pre post r news iB iA L' a w:=
 ⟨h.grown,λq=>by rw[e3,b];exact h.fresh (d▸q),by rw[b,c];exact h.rows,λq=>by rw[c];exact h.one (b▸q)⟩
def waits(ops:Array Oper)(i j:Nat):Bool:=match ops[i]? with
 |some o=>o.after.toList.any λe=>Region.binds .any e&&e.on==j
 |none=>false
theorem pW{o:Oper}(h:waits ops i j=true)(a:ops[i]?=some o)(b:∀e∈o.after.toList,Region.binds .any e=true->L e.on=true):L j=true:=by unfold waits at h;grind
def aeL(ops:Array Oper)(iS:Nat):Bool:=(List.range ops.size).all λj=>j==iS||(waits ops iS j||(List.range ops.size).any λk=>waits ops iS k&&waits ops k j)
theorem Bo(h:waits ops i j=true):∃o,ops[i]?=some o:=by grind[waits]
theorem aeM{o:Oper}(h:aeL ops i=true)(c:ops[i]?=some o)(f:∀e∈o.after.toList,Region.binds .any e=true->L e.on=true)(g:Shut ops L):∀j,j<ops.size->j≠i->L j=true:=by
 intro j l b;have:=List.all_eq_true.1 h j (List.mem_range.2 l);simp only[Bool.or_eq_true,beq_iff_eq,b,false_or]at this;rcases this with this |this
 .exact pW this c f
 .obtain⟨k,_,a⟩:=List.any_eq_true.1 this;simp only[qBa]at a;obtain⟨ok,d⟩:=Bo a.2;exact pW a.2 d (g k ok d (pW a.1 c f))
section
variable {F:Fence}{n:Nat}{P:Program}{ops:Array Oper}{Q:Exit->Act->World->Prop}
set_option maxHeartbeats 1000000 in
theorem F5(hm:P.follows .mixedOrders=true)(hb:JB ops=true){H:Act}(hok:Il ops H.tmps.size=true)(kv:Nat->Value){iS:Nat}(hne:iB≠iA/\iA≠iS/\iB≠iS)
    {sa:Addr}(hR:xU w0 B (pre++r::post))(hbase:B<=w0.heap.size)
    (t:TypeId)(i:TypeInfo)(zv:Value)(bytes:Nat)(ht:P.underlying t=some (.slice r.e))(hi:P.info? r.e=some i)(hz:i.zero=some zv)(hsize:i.size=r.z)(hby:i.bytes=bytes)(hzs:zv.cells.size=r.z)(S:0<r.z)(hbb:bytes<=1000)
    (hl:news.length=r.z)(G:∀u∈news,u.oneCell'=true)(hn:r.n+1<=1000000)(hw:waits ops iA iB=true)(hlast:aeL ops iS=true)(hSx:∃o,ops[iS]?=some o)
    (quiet:∀(L:Nat->Bool) (val:Nat->Value) (a:Act) (w:World) (i:Nat) (o:Oper),ops[i]?=some o->i≠iB->i≠iA->i≠iS->(∀e∈o.after.toList,Region.binds .any e=true->L e.on=true)->(∀j,L j=true->j≠iB->j≠iA->j≠iS->val j=kv j)->Ik ops o H a val ->
      (∀p x,w0.cell? p=some x->r.v.ownBlock≠some p.block->w.cell? p=some x) ->
      Region.wanted o (yielded ops a.tmps)=true/\o.about P w a.eval=none/\(∀c,o.op≠.defer c)/\(execOp a.eval o).run P w=.ok (.value (kv i)) w)
    (build:∀(L:Nat->Bool) (val:Nat->Value) (a:Act) (w:World) (o:Oper),ops[iB]?=some o->(∀e∈o.after.toList,Region.binds .any e=true->L e.on=true)->(∀j,L j=true->j≠iB->j≠iA->j≠iS->val j=kv j)->Ik ops o H a val ->
      Region.wanted o (yielded ops a.tmps)=true/\o.about P w a.eval=none/\(∀c,o.op≠.defer c)/\(execOp a.eval o).run P w=.ok (.value (.slice (some ⟨w.heap.size,0,none⟩) 1 1)) (w.alloc (.cells news.toArray r.e)))
    (app:∀(L:Nat->Bool) (val:Nat->Value) (a:Act) (w:World) (o:Oper),ops[iA]?=some o->(∀e∈o.after.toList,Region.binds .any e=true->L e.on=true)->(∀j,L j=true->j≠iB->j≠iA->j≠iS->val j=kv j)->Ik ops o H a val ->
      Region.wanted o (yielded ops a.tmps)=true/\o.about P w a.eval=none/\(∀c,o.op≠.defer c)/\∀v' w',(Builtin.append_ #[t,t] t #[r.v,val iB]).run P w=.ok v' w'->(execOp a.eval o).run P w=.ok (.value v') w')
    (store:∀(L:Nat->Bool) (val:Nat->Value) (a:Act) (w:World) (o:Oper),ops[iS]?=some o->(∀e∈o.after.toList,Region.binds .any e=true->L e.on=true)->(∀j,L j=true->j≠iB->j≠iA->j≠iS->val j=kv j)->Ik ops o H a val->(val iA).cells=#[val iA]->(val iA).oneCell'=true ->
      (∀p x,w0.cell? p=some x->r.v.ownBlock≠some p.block->w.cell? p=some x)->w0.grownBy w r.v.ownBlock ->
      Region.wanted o (yielded ops a.tmps)=true/\o.about P w a.eval=none/\(∀c,o.op≠.defer c)/\(execOp a.eval o).run P w=.ok .skip (w.setCell sa (val iA)))
    (fin:∀(val:Nat->Value) (a:Act) (w:World),(∀j,j<ops.size->j≠iB->j≠iA->j≠iS->val j=kv j)->Ups ops val H (λ_=>true) a->w0.grownBy w r.v.ownBlock->xU w B (pre++⟨r.e,r.z,val iA,r.n+1,r.cs++news⟩::post) ->
      (∀g,(val iA).ownBlock=some g->r.v.ownBlock=some g\/w0.heap.size<=g)->Q .normal a (w.setCell sa (val iA))){id:Nat}:(Code.region id ops true).wpIn F n P Q H w0:=by
  obtain⟨n1,n2,n3⟩:=hne;let Kn:Nat->Bool:=λj=>!(j==iB)&&(!(j==iA)&&!(j==iS));have kn:∀j,Kn j=true↔j≠iB/\j≠iA/\j≠iS:=λj=>by simp[Kn]
  have kn0:∀j,Kn j=false->j=iB\/j=iA\/j=iS:=λj h=>by
   rcases Classical.em (j=iB)with e |e
   .exact .inl e
   .rcases Classical.em (j=iA)with e' |e'
    .exact .inr (.inl e')
    .refine .inr (.inr (Classical.byContradiction λe''=>?_));rw[(kn j).2 ⟨e,e',e''⟩]at h;cases h
  let J:(Nat->Bool)->(Nat->Value)->World->Prop:=λL val w=>(L iS=false/\aeK w0 B pre post r news iB iA L val w)\/(L iS=true/\(∀j,j<ops.size->L j=true)/\L iA=true/\∃X,aeK w0 B pre post r news iB iA L val X/\w=X.setCell sa (val iA));have rd:∀{w},w0.grownBy w r.v.ownBlock->∀p x,w0.cell? p=some x->r.v.ownBlock≠some p.block->w.cell? p=some x:=λg p x G V=>ZB g G V;have R:∀{L:Nat->Bool}{val:Nat->Value},(∀j,L j=true->Kn j=true->val j=kv j)->∀j,L j=true->j≠iB->j≠iA->j≠iS->val j=kv j:=λh j h0 G V h3=>h j h0 ((kn j).2 ⟨G,V,h3⟩);refine FY Kn kv J hm hb hok (λL val w k hk0 U y s=>?_) (λL val a w k o l U y C E T s=>?_) (λL val a w k o l U y C hs0 E T s=>?_) (.inl ⟨rfl,?_⟩) λL val a w f E hU s=>?_
  .obtain⟨Z,Y,k3⟩:=(kn k).1 U;have eB:(iB==k)=false:=by simpa using Z.symm
   have eA:(iA==k)=false:=by simpa using Y.symm
   have eS:(iS==k)=false:=by simpa using k3.symm
   rcases s with⟨D,h⟩ |⟨_,f,_⟩
   .have N:(L iS||iS==k)=false:=by rw[D,eS];rfl
    refine .inl ⟨N,h.turn (by rw[eB,Bool.or_false]) (by rw[eA,Bool.or_false]) (if_neg Z.symm) (if_neg Y.symm)⟩
   .rw[f k hk0]at y;cases y
  .obtain⟨Z,Y,k3⟩:=(kn k).1 U;rcases s with⟨_,h⟩ |⟨_,f,_⟩
   .exact quiet L val a w k o l Z Y k3 C (R E) T (rd h.grown)
   .rw[f k (qAa.1 l).1]at y;cases y
  .rcases s with⟨D,h⟩ |⟨_,f,_⟩
   .rcases kn0 k U with rfl|rfl|rfl
    .obtain⟨q1,M,K,I⟩:=build L val a w o l C (R E) T;have e1:(iA==k)=false:=by simpa using n1.symm
     have W:(iS==k)=false:=by simpa using n3.symm
     have N:(L iS||iS==k)=false:=by rw[D,W];rfl
     have O:(L iA||iA==k)=L iA:=by rw[e1,Bool.or_false]
     refine⟨q1,M,K,_,_,.inl I,.inl ⟨N,⟨MW h.grown (Eo _ _ _),λ_=>⟨w.heap.size,if_pos rfl,h.grown.size,σ,λ_=>World.alloc_heap_new w _⟩,?_,λA=>?_⟩⟩⟩
     .show xU _ B (pre++(bif (L iA||iA==k)then⟨r.e,r.z,(if iA=k then _ else val iA),r.n+1,r.cs++news⟩else r)::post);rw[O,if_neg n1.symm];exact h.rows.grows λb hb=>Below.heap_alloc w _ b hb
     .have A:(L iA||iA==k)=true:=A;rw[O]at A;show(if iA=k then _ else val iA).cells=#[(if iA=k then _ else val iA)]/\(if iA=k then _ else val iA).oneCell'=true/\∀g,(if iA=k then _ else val iA).ownBlock=some g->_;rw[if_neg n1.symm];exact h.one A
    .obtain⟨q1,M,K,I⟩:=app L val a w o l C (R E) T;have hB:L iB=true:=pW hw l C;obtain⟨b,e,hb0,hbl,hcell⟩:=h.fresh hB;have hcell:=hcell y;have hrows:=h.rows;rw[y,qCf]at hrows;rw[e]at I;obtain⟨v',w',r1,r2,r3,r4,r5,r6⟩:=hrows.append (P:=P) t i zv bytes ht hi hz hsize hby hzs S (a:=⟨b,0,none⟩) (m:=1) (c:=1) (news:=news) (by rw[hl,Nat.one_mul]) (λj u hu=>by rw[Addr.add_lit];simp[World.cell?,hcell,hu]) G hn hbb (Nat.le_trans hbase h.grown.size);have e1:(iB==k)=false:=by simpa using n1
     have W:(iS==k)=false:=by simpa using n2.symm
     have N:(L iS||iS==k)=false:=by rw[D,W];rfl
     have O:(L k||k==k)=true:=σ
     refine⟨q1,M,K,v',w',.inl (I v' w' r1),.inl ⟨N,⟨MW h.grown r3,λ_=>⟨b,(if_neg n1).trans e,hb0,Nat.lt_of_lt_of_le hbl r3.size,λhA=>by rw[O]at hA;cases hA⟩,?_,λ_=>?_⟩⟩⟩
     .show xU _ B (pre++(bif (L k||k==k)then⟨r.e,r.z,(if k=k then v' else val k),r.n+1,r.cs++news⟩else r)::post);rw[O,if_pos rfl];exact r2
     .show(if k=k then v' else val k).cells=#[(if k=k then v' else val k)]/\(if k=k then v' else val k).oneCell'=true/\∀g,(if k=k then v' else val k).ownBlock=some g->_;rw[if_pos rfl];exact⟨r4,r5,λg hg=>(r6 g hg).imp (λq=>q) λhh=>Nat.le_trans h.grown.size hh⟩
    .have f:=aeM hlast l C hs0;have hA:L iA=true:=f iA (by
      cases hx:ops[iA]? with
      |none=>unfold waits at hw;rw[hx]at hw;cases hw
      |some oA=>exact(qAa.1 hx).1) n2
     obtain⟨o1,o2,o3⟩:=h.one hA;obtain⟨q1,M,K,I⟩:=store L val a w o l C (R E) T o1 o2 (rd h.grown) h.grown;have e1:(iB==k)=false:=by simpa using n3
     have W:(iA==k)=false:=by simpa using n2
     refine⟨q1,M,K,undef,_,.inr ⟨rfl,I⟩,.inr ⟨?_,λj s=>?_,?_,w,h.turn (by rw[e1,Bool.or_false]) (by rw[W,Bool.or_false]) (if_neg n3) (if_neg n2),?_⟩⟩
     .show(L k||k==k)=true;simp
     .show(L j||j==k)=true;by_cases ej:j=k
      .simp[ej]
      .rw[f j s ej];rfl
     .show(L iA||iA==k)=true;rw[hA];rfl
     .show _=w.setCell sa (if iA=k then undef else val iA);rw[if_neg n2]
   .rw[f k (qAa.1 l).1]at y;cases y
  .exact⟨⟨rfl,rfl,rfl,qNr _,λ_ _ _=>rfl⟩,λh=>(by cases h),hR.keep λ_ _ _ _=>rfl,λh=>(by cases h)⟩
  .have S:∀j,j<ops.size->L j=true:=f;obtain⟨oS,hoS⟩:∃oS,ops[iS]?=some oS:=hSx;rcases s with⟨D,_⟩ |⟨_,_,hA,X,h,rfl⟩
   .rw[f iS (qAa.1 hoS).1]at D;cases D
   .have hr:=h.rows;rw[hA,qCt]at hr;exact fin val a X (λj s G V h3=>R E j (f j s) G V h3) ⟨hU.size,hU.defers,hU.keep,λi o d l hd _=>hU.got i o d l hd (f i (qAa.1 l).1)⟩ h.grown hr (h.one hA).2.2
end
end
section
def Known(X:Ext):Prop:=run tab X 6 [] []=some ([Ai true],[])
def exA:Ac:=⟨[117,112],5000,[⟨⟨0,0,300⟩,0,4000,0⟩,⟨⟨500,0,300⟩,1000,4000,0⟩]⟩
def Ja:Pg:=⟨[[97],[98]],[⟨0,0,0⟩,⟨500,0,0⟩],[exA]⟩
def exB:Ac:=⟨[100,111,119,110],1000,[⟨⟨0,0,0⟩,0,2000,0⟩,⟨⟨500,0,300⟩,0,0,0⟩]⟩
theorem Xx{p:Pg}(e:p.names.length<=100)(d:p.homes.length<=100)(c:p.acts.length<=1000)(h4:(p.acts.all λa=>decide (a.dG.length<=100)&&(decide (a.name.length<=2000)&&(decide (-9223372036854775808<=a.len)&&decide (a.len<=9223372036854775807))))=true)(h5:(p.names.all λg=>decide (g.length<=2000))=true):Small p:=by simp only[List.all_eq_true,qBa,qDa]at h4 h5;exact⟨e,d,c,λa b=>⟨(h4 a b).1,(h4 a b).2.1,(h4 a b).2.2⟩,h5⟩
theorem exS:Small Ja:=Xx δ δ δ δ δ
theorem apZ:Small (RQ Ja exB):=Xx δ δ δ δ δ
theorem exR:Rng Ja:=by
 constructor
 .intro v b;simp only[Ja,List.mem_cons,List.not_mem_nil,or_false]at b;rcases b with rfl|rfl<;>simp[i64]
 .intro a d m c;simp only[Ja,List.mem_cons,List.not_mem_nil,or_false]at d;subst d;simp only[exA,List.mem_cons,List.not_mem_nil,or_false]at c;rcases c with rfl|rfl<;>simp[i64]
theorem exV:bU Ja=true:=by decide +kernel
theorem aly:bU (RQ Ja exB)=false:=by decide +kernel
def q0:List Sg:=[⟨0,4000,1,[0],[0],[0,0,0,3000,-4500,1800]⟩,⟨4000,5000,1,[0],[0],[300]⟩]
def q1:List Sg:=[⟨0,1000,1,[500],[0],[0]⟩,⟨1000,5000,1,[500],[0],[0,0,0,3000,-4500,1800]⟩]
theorem ap0:ML Ja 0=(q0,0):=by decide +kernel
theorem ap1:ML Ja 1=(q1,0):=by decide +kernel
theorem exL:Ij Ja=5000:=by decide +kernel
theorem ap2:MN Ja 0=([⟨0,0,0⟩,⟨500,0,0⟩],0):=by decide +kernel
theorem ap3:MN Ja 1=([⟨0,0,300⟩,⟨500,0,300⟩],0):=by decide +kernel
theorem ap4:ach Ja 5000=(0,0,0):=by decide +kernel
theorem ap5:ach Ja 5001=(0,0,3):=by decide +kernel
theorem exN:aaU Ja [98]=(1,0):=by decide +kernel
theorem ap6:(Zr Ja exB).2=10:=by rw[Zr,exV,aly];rfl
theorem alz:(Zr Ja exB).1=ajd:=by rw[Zr,exV,aly];rfl
theorem sGz{u:Nat}(h:u<10):Lib.decDigits u=[UInt8.ofNat (48+u)]:=by rw[Lib.decDigits];simp[h]
theorem i0:Lib.itoa 0=[48]:=by rw[xO δ,sGz δ];rfl
theorem i3:Lib.itoa 300=[51,48,48]:=by rw[xO δ,bT δ,bT δ,sGz δ,sGz δ,sGz δ];rfl
theorem i5:Lib.itoa 500=[53,48,48]:=by rw[xO δ,bT δ,bT δ,sGz δ,sGz δ,sGz δ];rfl
theorem i1k:Lib.itoa 1000=[49,48,48,48]:=by rw[xO δ,bT δ,bT δ,bT δ,sGz δ,sGz δ,sGz δ,sGz δ];rfl
theorem i4k:Lib.itoa 4000=[52,48,48,48]:=by rw[xO δ,bT δ,bT δ,bT δ,sGz δ,sGz δ,sGz δ,sGz δ];rfl
theorem i5k:Lib.itoa 5000=[53,48,48,48]:=by rw[xO δ,bT δ,bT δ,bT δ,sGz δ,sGz δ,sGz δ,sGz δ];rfl
def exT:List UInt8:=[97,105,114,99,114,97,102,116,32,97,32,48,32,48,32,48,10,97,105,114,99,114,97,102,116,32,98,32,53,48,48,32,48,32,48,10,97,99,116,32,117,112,32,53,48,48,48,10,109,111,118,101,32,48,32,48,32,51,48,48,32,48,32,52,48,48,48,32,48,10,109,111,118,101,32,53,48,48,32,48,32,51,48,48,32,49,48,48,48,32,52,48,48,48,32,48,10]
theorem ap7:kT Ja=exT:=by simp only[kT,Ja,exA,yY,A8,uJ,Pv,Xw,Px,i0,i3,i5,i1k,i4k,i5k];rfl
section
variable (X:Ext) (hX:Mine X)
include hX
theorem Xy(x y z:Int):run tab X 27 [Ab x,Ab y,Ab z] []=some ([.p (aQ ⟨x,y,z⟩)],[]):=
 aV (hX _ rfl) (by rw[e27];rfl)
theorem c22:run tab X 22 [] []=some ([.p (eG Ja)],[]):=by refine aV (hX _ rfl) ?_;rw[e22];refine iF (Xy X hX 0 0 0) ?_;refine iF (Xy X hX 500 0 0) ?_;refine iF (Xy X hX 0 0 300) ?_;refine iF (Xy X hX 500 0 300) ?_;rfl
theorem c29:run tab X 29 [] []=some ([.p (.str (ba exT))],[]):=
 aV (hX _ rfl) (by rw[e29];rfl)
theorem known(a:jd X)(hA:ad8 X):Known X:=by have e:=c14 X hX a Ja exS;rw[exV,exL]at e;have d:=c23 X hX a hA Ja exS 0;rw[ap0]at d;have b:=c23 X hX a hA Ja exS 1;rw[ap1]at b;have i:=c16 X hX a Ja exS 0;rw[ap2]at i;have k:=c16 X hX a Ja exS 1;rw[ap3]at k;have h:=c24 X hX a Ja exS 5000;rw[ap4]at h;have j:=c24 X hX a Ja exS 5001;rw[ap5]at j;have g:=c25 X hX a Ja exS [98];rw[exN]at g;have c:=c7 X hX a Ja exS exR exV;rw[ap7]at c;have f:=c28 X hX a Ja exS exB apZ;rw[ap6,alz]at f;unfold Known;refine aV (hX _ rfl) ?_;rw[e6];refine iF (c22 X hX) ?_;refine iF e ?_;refine iF d ?_;refine iF b ?_;refine qo rfl ?_;refine qo rfl ?_;refine qo rfl ?_;refine qo rfl ?_;refine qo rfl ?_;refine Js rfl ?_;refine qo rfl ?_;refine Js rfl ?_;refine qo rfl ?_;refine qo rfl ?_;refine Js rfl ?_;refine qo rfl ?_;refine Js rfl ?_;refine qo rfl ?_;refine iF i ?_;refine iF k ?_;refine iF h ?_;refine iF j ?_;refine iF g ?_;refine qo rfl ?_;refine qo rfl ?_;refine qo rfl ?_;refine qo rfl ?_;refine qo rfl ?_;refine qo rfl ?_;refine qo rfl ?_;refine qo rfl ?_;refine iF (c26 X hX [⟨0,0,0⟩,⟨500,0,0⟩] [⟨0,0,0⟩,⟨500,0,0⟩] δ) ?_;refine qo rfl ?_;refine iF (Xy X hX 0 0 300) ?_;refine iF (Xy X hX 500 0 300) ?_;refine iF (c26 X hX [⟨0,0,300⟩,⟨500,0,300⟩] [⟨0,0,300⟩,⟨500,0,300⟩] δ) ?_;refine qo rfl ?_;refine iF c ?_;refine iF (Xy X hX 0 0 0) ?_;refine iF (Xy X hX 500 0 300) ?_;refine iF f ?_;refine iF (c29 X hX) ?_;simp
end
end
section
variable {c:Bool}{p:Prop}
section
variable {α:Type}
theorem aci{a b r:α}(h:c=true)(d:b=r):cond (!c) a b=r:=by rw[h];exact d
theorem alC{a b r:α}(h:c=false)(d:a=r):cond (!c) a b=r:=by rw[h];exact d
theorem ap8{i:Decidable p}{a b r:α}(h:p)(d:a=r):cond (@decide p i) a b=r:=TN h d
theorem ap9{i:Decidable p}{a b r:α}(h:¬p)(d:b=r):cond (@decide p i) a b=r:=aje h d
end
section
variable (X:Ext) (hX:Mine X)
include hX
end
end
section
open Go.Proofs Go.RowKit Go.Shelf
variable {b:Nat}{r:Rw}{g:List UInt8}{v':Value}
def nmC(l:List (List UInt8)):List Value:=l.map λg=>.string (ba g)
def WQ(v:V3):List Value:=[.int .i64 v.x,.int .i64 v.y,.int .i64 v.z]
def mvC(m:Mv):List Value:=[.int .i64 m.to.x,.int .i64 m.to.y,.int .i64 m.to.z,.int .i64 m.wait,.int .i64 m.fl,.int .i64 m.rise]
def Y5(l:List (Ac × Value)):List Value:=l.flatMap λp=>[.string (ba p.1.name),.int .i64 p.1.len,p.2]
def Jb(v:Value)(l:List (List UInt8)):Rw:=⟨9,1,v,l.length,nmC l⟩
def JC(v:Value)(l:List V3):Rw:=⟨66,3,v,l.length,l.flatMap WQ⟩
def wo(v:Value)(l:List (Ac × Value)):Rw:=⟨72,3,v,l.length,Y5 l⟩
def F6(p:Ac × Value):Rw:=⟨82,6,p.2,p.1.dG.length,p.1.dG.flatMap mvC⟩
def yP(vn vh va:Value)(ns:List (List UInt8))(hs:List V3)(l:List (Ac × Value)):List Rw:=Jb vn ns::JC vh hs::wo va l::l.map F6
structure Own (W:World) (B Pb:Nat) (vn vh va:Value) (ns:List (List UInt8)) (hs:List V3) (l:List (Ac × Value)):Prop where
 box:W.heap[Pb]?=some (.cells #[vn,vh,va] 26 (0,0))
 base:B<=Pb
 rows:xU W B (yP vn vh va ns hs l)
def rwB(vn vh va:Value)(l:List (Ac × Value))(b:Nat):Prop:=vn.ownBlock=some b\/vh.ownBlock=some b\/va.ownBlock=some b\/∃p∈l,p.2.ownBlock=some b
theorem Io{vn vh va:Value}{ns:List (List UInt8)}{hs:List V3}{l:List (Ac × Value)}:∀r∈yP vn vh va ns hs l,r.e≠26:=by intro r a;simp only[yP,List.mem_cons,List.mem_map]at a;rcases a with rfl|rfl|rfl |⟨p,_,rfl⟩<;>(simp[Jb,JC,wo,F6])
theorem F7(l:List (Ac × Value)):(Y5 l).length=l.length*3:=by
 induction l with
 |nil=>rfl
 |cons p r a=>have:Y5 (p::r)=[.string (ba p.1.name),.int .i64 p.1.len,p.2]++Y5 r:=rfl;grind
theorem Ox(a b:List (Ac × Value)):Y5 (a++b)=Y5 a++Y5 b:=by simp[Y5]
theorem aeN(l:List (Ac × Value))(p:Ac × Value)(m:Mv)(v:Value):(Y5 (l++[p])).set (l.length*3+2) v=Y5 (l++[({p.1 with dG:=p.1.dG++[m]},v)]):=by rw[Ox,Ox,List.set_append_right _ _ (by rw[F7];omega),F7,show l.length*3+2-l.length*3=2 by omega];rfl
section
variable {W w:World}{B Pb:Nat}{vn vh va:Value}{ns:List (List UInt8)}{hs:List V3}{l:List (Ac × Value)}
theorem Own.lt(h:Own W B Pb vn vh va ns hs l):Pb<W.heap.size:=(qAa.1 h.box).1
theorem agX(a:rwB vn vh va l b)(ns:List (List UInt8))(hs:List V3):∃r∈yP vn vh va ns hs l,r.v.ownBlock=some b:=by
 rcases a with h |h |h |⟨p,hp,h⟩
 .exact⟨Jb vn ns,by simp[yP],h⟩
 .exact⟨JC vh hs,by simp[yP],h⟩
 .exact⟨wo va l,by simp[yP],h⟩
 .exact⟨F6 p,by simp only[yP,List.mem_cons,List.mem_map];exact .inr (.inr (.inr ⟨p,hp,rfl⟩)),h⟩
theorem aa9(a:r∈yP vn vh va ns hs l)(h:r.v.ownBlock=some b):rwB vn vh va l b:=by
 simp only[yP,List.mem_cons,List.mem_map]at a;rcases a with rfl|rfl|rfl |⟨p,hp,rfl⟩
 .exact .inl h
 .exact .inr (.inl h)
 .exact .inr (.inr (.inl h))
 .exact .inr (.inr (.inr ⟨p,hp,h⟩))
theorem Own.blk(h:Own W B Pb vn vh va ns hs l)(c:rwB vn vh va l b):B<=b/\b<W.heap.size/\b≠Pb:=by obtain⟨r,a,e⟩:=agX c ns hs;have:=h.rows.lt a e;exact⟨this.1,this.2,own_ne (h.rows.own r a) e h.box (Io r a)⟩
theorem Own.grows(h:Own W B Pb vn vh va ns hs l)(a:∀b,b<W.heap.size->w.heap[b]?=W.heap[b]?):Own w B Pb vn vh va ns hs l:=⟨(a _ h.lt).trans h.box,h.base,h.rows.grows a⟩
theorem Ep{a:List Rw}{xs:Array Value}{k:Nat}{v:Value}(f:W.heap[Pb]?=some (.cells xs 26 (0,0)))(c:xU W B a)(i:∀r∈a,r.e≠26) :
    (W.setCell ⟨Pb,k,none⟩ v).heap[Pb]?=some (.cells (xs.setIfInBounds k v) 26 (0,0))/\xU (W.setCell ⟨Pb,k,none⟩ v) B a:=by
  refine⟨setCell_at v f,c.keep λr h g d=>?_⟩;exact(jw W Pb k v).block g (c.lt h d).2 λe=>own_ne (c.own r h) d f (i r h) (Option.some.inj e)
theorem uN(h:Own W B Pb vn vh va ns hs l)(a:r∈yP vn vh va ns hs l)(c:W.grownBy w r.v.ownBlock):w.heap[Pb]?=some (.cells #[vn,vh,va] 26 (0,0)):=
 (c.block Pb h.lt λe=>own_ne (h.rows.own r a) e.symm h.box (Io r a) rfl).trans h.box
theorem Own.name(h:Own W B Pb vn vh va ns hs l)(f:W.grownBy w vn.ownBlock)(a:xU w B ([] ++ ⟨9,1,v',ns.length+1,nmC ns ++ [.string (ba g)]⟩::[JC vh hs,wo va l] ++ l.map F6)) :
    Own (w.setCell ⟨Pb,0,none⟩ v') B Pb v' vh va (ns++[g]) hs l:=by
  have i:=uN h (r:=Jb vn ns) (by simp[yP]) f;have e:([]++⟨9,1,v',ns.length+1,nmC ns++[.string (ba g)]⟩::[JC vh hs,wo va l]++l.map F6:List Rw)=yP v' vh va (ns++[g]) hs l:=by simp[yP,Jb,nmC]
  rw[e]at a;obtain⟨d,c⟩:=Ep (k:=0) (v:=v') i a Io;exact⟨d,h.base,c⟩
theorem Own.home(h:Own W B Pb vn vh va ns hs l){x:V3}(f:W.grownBy w vh.ownBlock)(a:xU w B ([Jb vn ns] ++ ⟨66,3,v',hs.length+1,hs.flatMap WQ ++ WQ x⟩::[wo va l] ++ l.map F6)) :
    Own (w.setCell ⟨Pb,1,none⟩ v') B Pb vn v' va ns (hs++[x]) l:=by
  have i:=uN h (r:=JC vh hs) (by simp[yP]) f;have e:([Jb vn ns]++⟨66,3,v',hs.length+1,hs.flatMap WQ++WQ x⟩::[wo va l]++l.map F6:List Rw)=yP vn v' va ns (hs++[x]) l:=by simp[yP,JC,WQ]
  rw[e]at a;obtain⟨d,c⟩:=Ep (k:=1) (v:=v') i a Io;exact⟨d,h.base,c⟩
theorem Own.act(h:Own W B Pb vn vh va ns hs l){n:Int}(f:W.grownBy w va.ownBlock)(j:xU w B ([Jb vn ns,JC vh hs] ++ ⟨72,3,v',l.length+1,Y5 l ++ [.string (ba g),.int .i64 n,.slice none 0 0]⟩::l.map F6)) :
    Own (w.setCell ⟨Pb,2,none⟩ v') B Pb vn vh v' ns hs (l++[(⟨g,n,[]⟩,.slice none 0 0)]):=by
  have i:=uN h (r:=wo va l) (by simp[yP]) f;have a:=j.aeJ 82 6;have e:(([Jb vn ns,JC vh hs]++⟨72,3,v',l.length+1,Y5 l++[.string (ba g),.int .i64 n,.slice none 0 0]⟩::l.map F6)++[⟨82,6,.slice none 0 0,0,[]⟩]:List Rw)=yP vn vh v' ns hs (l++[(⟨g,n,[]⟩,.slice none 0 0)]):=by simp[yP,wo,F6,Y5]
  rw[e]at a;obtain⟨d,c⟩:=Ep (k:=2) (v:=v') i a Io;exact⟨d,h.base,c⟩
theorem Own.move{p:Ac × Value}(h:Own W B Pb vn vh va ns hs (l ++ [p])){m:Mv}{c cap:Nat}(a:va=.slice (some ⟨c,0,none⟩) (l.length+1) cap)(j:W.grownBy w p.2.ownBlock)
    (n:xU w B ((Jb vn ns::JC vh hs::wo va (l++[p])::l.map F6)++⟨82,6,v',p.1.dG.length+1,p.1.dG.flatMap mvC++mvC m⟩::[])) :
    Own (w.setCell ⟨c,l.length*3+2,none⟩ v') B Pb vn vh va ns hs (l++[({p.1 with dG:=p.1.dG++[m]},v')]):=by
  have i:=uN h (r:=F6 p) (by simp[yP]) j;have f:=xU.store (pre:=[Jb vn ns,JC vh hs]) (r:=wo va (l++[p])) (post:=l.map F6++[⟨82,6,v',p.1.dG.length+1,p.1.dG.flatMap mvC++mvC m⟩]) (g:=c) (k:=l.length*3+2) (by simpa using n) (by simp[wo,a,Value.ownBlock]) (by simp[wo];omega) v';have d:c≠Pb:=own_ne (h.rows.own (wo va (l++[p])) (by simp[yP])) (by simp[wo,a,Value.ownBlock]) h.box (show(72:Nat)≠26 by decide);refine⟨((jw w c _ v').block Pb (qAa.1 i).1 λe=>d (Option.some.inj e).symm).trans i,h.base,?_⟩;have e:([Jb vn ns,JC vh hs]++(⟨72,3,va,(l++[p]).length,(Y5 (l++[p])).set (l.length*3+2) v'⟩:Rw)::(l.map F6++[⟨82,6,v',p.1.dG.length+1,p.1.dG.flatMap mvC++mvC m⟩]):List Rw)=yP vn vh va ns hs (l++[({p.1 with dG:=p.1.dG++[m]},v')]):=by rw[aeN l p m v'];simp[yP,wo,F6]
  rw[<-e];exact f
end
end
section
open Go.Proofs Go.RowKit Go.Shelf
variable {ops:Array Oper}{qs ts:List Nat}{kv sl val:Nat->Value}{a a0:Act}{o:Oper}{L:Nat->Bool}{cell:Addr->Option Value}{w:World}{i:Nat}
def srcs:Op->List Operand
 |.move x=>[x]
 |.assign x=>[x]
 |.nilCheck x=>[x]
 |.fieldAddr _ x _=>[x]
 |.load _ x=>[x]
 |.indexAddr _ x y=>[x,y]
 |_=>[]
def ajx(t:Nat):Bool:=t==22||(t==23||(t==24||(t==70||(t==3||t==9))))
def qv(cell:Addr->Option Value)(e:Operand->Value):Op->Option Value
 |.move x=>some (e x)
 |.assign x=>some (e x)
 |.nilCheck x=>match e x with
  |.pointer (some a)=>some (.pointer (some a))
  |_=>none
 |.fieldAddr t x k=>match e x with
  |.pointer (some ⟨b,o,none⟩)=>bif (t==26||t==72)&&Nat.blt k 3 then some (.pointer (some ⟨b,o+k,none⟩))else none
  |_=>none
 |.load t x=>match e x with
  |.pointer (some ad)=>bif ajx t then cell ad else none
  |_=>none
 |.indexAddr t x y=>match e x,e y with
  |.slice (some ⟨b,o,none⟩) n _,.int .i64 i=>if 0<=i/\i<(n:Int)then(bif t==22||t==59 then some (.pointer (some ⟨b,o+i.toNat,none⟩))else none)else none
  |_,_=>none
 |_=>none
def VA(ops:Array Oper)(t:Nat):Option Nat:=(List.range ops.size).find? λj=>match ops[j]?.bind (·.dst)with
 |some d=>d==t
 |none=>false
def abp(ops:Array Oper)(qs ts:List Nat)(o:Oper)(x:Operand):Bool:=match x with
 |.tmp t=>(match VA ops t with
  |some j=>!qs.contains j&&o.after.toList.any λe=>Region.binds .any e&&e.on==j
  |none=>ts.contains t)
 |.const _=>true
 |_=>false
def ajy(ops:Array Oper)(qs ts:List Nat):Bool:=(List.range ops.size).all λi=>match ops[i]? with
 |some o=>qs.contains i||(o.guard.isNone&&(srcs o.op).all (abp ops qs ts o))
 |none=>true
def evK(ops:Array Oper)(kv sl:Nat->Value):Operand->Value
 |.tmp t=>(match VA ops t with
  |some j=>kv j
  |none=>sl t)
 |.const v=>v
 |_=>undef
theorem afa(c:∀t∈ts,a0.tmps.getD t undef=sl t)(r:∀e∈o.after.toList,Region.binds .any e=true->L e.on=true)(s:∀j,L j=true->j ∉ qs->val j=kv j)(g:Ik ops o a0 a val){x:Operand}(h:abp ops qs ts o x=true):a.eval x=evK ops kv sl x:=by
 cases x with
 |tmp t=>
  simp only[abp]at h;simp only[evK];cases b:VA ops t with
  |some j=>
   rw[b]at h;simp only[qBa,qBb,List.any_eq_true]at h;obtain⟨u,e,n,m,h4⟩:=h;have hd:=List.find?_some b;have l:e.on=j:=by simpa using h4
   have f:(ops[e.on]?.bind (·.dst))=some t:=by
    rw[l];split at hd
    .rename_i d h5;rw[h5];simpa using hd
    .cases hd
   have k:j ∉ qs:=by simpa using u
   rw[<-l]at k ⊢;exact(g.at_ e n m t f).trans (s _ (r e n m) k)
  |none=>
   rw[b]at h;refine(g.out t ?_).trans (c t (by simpa using h));refine List.all_eq_true.2 λi hi=>?_;have:=List.find?_eq_none.1 b i hi;cases q:ops[i]? with
   |none=>rfl
   |some p=>
    rw[q]at this;simp only[qOb]at this;cases hd:p.dst with
    |none=>simp[hd]
    |some d=>rw[hd]at this;simp at this;simp[hd,this]
 |const v=>rfl
 |_=>simp[abp]at h
theorem ajz{e:Operand->Value}{v:Value}(hcell:∀ad x,cell ad=some x->w.cell? ad=some x)(f:∀x∈srcs o.op,a.eval x=e x)(h:qv cell e o.op=some v):calm o=true/\(execOp a.eval o).run Tryz.prog w=.ok (.value v) w:=by
 rcases o with⟨r,op,ty,m,t,s⟩;simp only at f h;cases op<;>simp only[qv]at h<;>first |(cases h;done) |skip
 case move x=>cases h;refine⟨rfl,?_⟩;have:=f x (by simp[srcs]);simp only[execOp,this];rfl
 case assign x=>cases h;refine⟨rfl,?_⟩;have:=f x (by simp[srcs]);simp only[execOp,this];rfl
 case nilCheck x=>
  have d:=f x (by simp[srcs]);split at h
  .rename_i ad g;cases h;rw[g]at d;refine⟨rfl,?_⟩;simp only[execOp,d];simp[go_sem]
  .cases h
 case load ty x=>
  have d:=f x (by simp[srcs]);split at h
  .rename_i ad g;rw[g]at d;cases c:ajx ty with
   |false=>rw[c]at h;cases h
   |true=>rw[c]at h;have q:=hcell _ _ h;refine⟨rfl,?_⟩;simp only[ajx,Bool.or_eq_true,beq_iff_eq]at c;rcases c with rfl|rfl|rfl|rfl|rfl|rfl<;>(simp only[execOp,d];simp[Instr.loadAt,go_sem,q])
  .cases h
 case fieldAddr ty x k=>
  have d:=f x (by simp[srcs]);split at h
  .rename_i b o g;rw[g]at d;cases c:(ty==26||ty==72)&&Nat.blt k 3 with
   |false=>rw[c]at h;cases h
   |true=>
    rw[c]at h;cases h;refine⟨rfl,?_⟩;simp only[qBa,Bool.or_eq_true,beq_iff_eq,Nat.blt_eq]at c;obtain⟨c,h4⟩:=c;have p:k=0\/k=1\/k=2:=ω
    rcases c with rfl|rfl<;>rcases p with rfl|rfl|rfl<;>(simp only[execOp,d];simp[go_sem])
  .cases h
 case indexAddr ty x y=>
  have d:=f x (by simp[srcs]);have l:=f y (by simp[srcs]);split at h
  .rename_i b o n _ i g c;rw[g]at d;rw[c]at l;split at h
   .rename_i hi;cases h4:(ty==22||ty==59)with
    |false=>rw[h4]at h;cases h
    |true=>rw[h4]at h;cases h;refine⟨rfl,?_⟩;simp only[Bool.or_eq_true,beq_iff_eq]at h4;obtain⟨j,rfl⟩:=Int.eq_ofNat_of_zero_le hi.1;rcases h4 with rfl|rfl<;>(simp only[execOp,d,l];simp[Instr.indexAt,go_sem];omega)
   .cases h
  .cases h
def cl1(w:World)(V:Option Nat)(ad:Addr):Option Value:=if V=some ad.block then none else w.cell? ad
def cl2(w:World)(V U:Option Nat)(ad:Addr):Option Value:=if V=some ad.block\/U=some ad.block then none else w.cell? ad
section
variable {w:World}{V U:Option Nat}{ad:Addr}{x:Value}
theorem sQ(h:w.cell? ad=some x)(n:V≠some ad.block):cl1 w V ad=some x:=(if_neg n).trans h
theorem acH(h:w.cell? ad=some x)(n:V≠some ad.block)(m:U≠some ad.block):cl2 w V U ad=some x:=(if_neg λe=>e.elim n m).trans h
theorem vF(h:cl1 w V ad=some x):w.cell? ad=some x/\V≠some ad.block:=by
 unfold cl1 at h;split at h
 .cases h
 .rename_i n;exact⟨h,n⟩
theorem mX(h:cl2 w V U ad=some x):w.cell? ad=some x/\V≠some ad.block/\U≠some ad.block:=by
 unfold cl2 at h;split at h
 .cases h
 .rename_i n;exact⟨h,λe=>n (.inl e),λe=>n (.inr e)⟩
end
def dsI(ops:Array Oper)(lo hi:Nat):Bool:=(List.range ops.size).all λi=>match ops[i]?.bind (·.dst)with
  |some d=>Nat.ble lo d&&Nat.ble d hi
  |none=>true
theorem dsO{lo hi t:Nat}(h:dsI ops lo hi=true)(b:ops[i]?=some o)(e:o.dst=some t)(d:t<lo\/hi<t):False:=by have c:=List.all_eq_true.1 h i (List.mem_range.2 (qAa.1 b).1);simp only[b,Option.bind_some,e,Bool.and_eq_true,Nat.ble_eq]at c;omega
theorem uO(p:ajy ops qs ts=true)(d:∀t∈ts,a0.tmps.getD t undef=sl t)(f:ops[i]?=some o)(hi:i ∉ qs)(n:∀e∈o.after.toList,Region.binds .any e=true->L e.on=true)(q:∀j,L j=true->j ∉ qs->val j=kv j)(g:Ik ops o a0 a val)
    (hcell:∀ad x,cell ad=some x->w.cell? ad=some x)(h:qv cell (evK ops kv sl) o.op=some (kv i)) :
    Region.wanted o (yielded ops a.tmps)=true/\o.about Tryz.prog w a.eval=none/\(∀c,o.op≠.defer c)/\(execOp a.eval o).run Tryz.prog w=.ok (.value (kv i)) w:=by
  have b:=List.all_eq_true.1 p i (List.mem_range.2 (qAa.1 f).1);rw[f]at b;simp only[Bool.or_eq_true,qBa]at b;rcases b with b |⟨b,r⟩
  .exact absurd (by simpa using b) hi
  .have m:o.guard=none:=by simpa using b
   obtain⟨q1,k⟩:=ajz hcell (λx l=>afa d n q g (List.all_eq_true.1 r x l)) h;exact qY (by unfold Region.wanted;rw[m]) q1 k
end
end Go.Skm.Prg
