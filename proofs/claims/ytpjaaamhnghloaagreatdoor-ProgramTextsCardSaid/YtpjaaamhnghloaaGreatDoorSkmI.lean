import Derived.Test.YtpjaaamhnghloaaGreatDoorSkmH
import Derived.Test.YtpjaaamhnghloaaGreatDoorSkmG
import Derived.Shelf.LaysM
import Derived.Shelf.LaysC
import Derived.Shelf.Strconv.Itoa3
import Derived.Shelf.Strconv.AtoiAll
import Derived.Shelf.Strings.Split
import Derived.Shelf.SlicesE.Clone
import Derived.Laws.OwnMore
import Derived.Test.YtpjaaamhnghloaaGreatDoorSkmC
import Derived.Test.YtpjaaamhnghloaaGreatDoorSkmB
import Derived.Shelf.Strings.BuilderK
set_option linter.all false
namespace Go.Skm
open Go Go.Proofs Go.Shelf Go.RowKit
section
open Go.Sort
variable {f:Nat}{t:TypeId}
def TG:uw:=λargs bl=>match args,bl with
 |[.p (.str s)],[]=>if s.size<=281474976710656 then some (Bd s.data.toList,[])else none
 |_,_=>none
def KN:uw:=λargs bl=>match args,bl with
 |[.p (.str s),.p (.str sep)],[]=>match sep.data.toList with
  |[c]=>if s.size<4294967281 then some ([.fresh false [.str] ((bG c s.data.toList).map λp=>.str (ba p))],[])else none
  |_=>none
 |_,_=>none
section
variable {P:Program}{T:Tab}{gl:Option (List (Nat × Obj))}{ρ:Ren}{fi:FI}{c:Code}
theorem ab4(y:gl≠none)(L:LaysC.n172 P ρ)(U:ρ.f 172=f)(S:aX T.funcs f=some fi)(hb:fi.fn.body=some c)(Q:fi.cfg.rets=[]){u:TypeId}(I:fi.fn.resultTypes=#[t,u])(J:ay T t=(false,[.int .i64]))(r:ay T u=(false,[.other]))
    (hg:∀w:World,(∀p∈gl.getD [],w.heap[p.1]?=some p.2)->∃l,w.cell? ⟨ρ.g 15,0,none⟩=some l/\(l=.nilIface\/∃E F,l=.iface E F))
    (R:∀w:World,(∀p∈gl.getD [],w.heap[p.1]?=some p.2)->∃l,w.cell? ⟨ρ.g 16,0,none⟩=some l/\(l=.nilIface\/∃E F,l=.iface E F)):BQ P T gl f TG:=by
  intro Y args bl rs l9 Am h;have:Y=fi:=by rw[S]at Am;exact(Option.some.inj Am).symm
  subst this;unfold TG at h;split at h
  .next s=>
   split at h
   .next hn=>
    cases h;refine⟨⟨_,hb⟩,σ,λw M β ak A j=>?_⟩;obtain⟨v,rfl,hv⟩:=Ap j;have H:=Ol hv;subst H;obtain⟨l,X,V⟩:=hg w λp hp=>(A p hp).2;obtain⟨er,O,K⟩:=R w λp hp=>(A p hp).2;unfold Bd;rcases hA:Lib.atoiAll s.data.toList with v |_ |_
    .have d:=Any.strconv_Atoi_ok L s ω v hA w;rw[U]at d;refine d.mono λe w' ⟨B,z⟩=>⟨[.int .i64 v,.nilIface],[none,none],M,B,?_⟩;have D:Below w.heap.size w w':=by
      rcases z with rfl |⟨t,rfl⟩
      .exact Below.refl _ _
      .refine⟨?_,?_,?_,?_,λk hk=>?_⟩
       .unfold Lib.bytesWorld World.freeze;split<;>rfl
       .unfold Lib.bytesWorld World.freeze;split<;>rfl
       .unfold Lib.bytesWorld World.freeze;split<;>rfl
       .unfold Lib.bytesWorld World.freeze;split<;>simp
       .have Z:(w.drew.alloc (.cells (Lib.bytesCells w (ρ.t 5) t) (ρ.t 5))).heap[k]?=w.heap[k]?:=Below.heap_alloc w.drew _ k hk;unfold Lib.bytesWorld World.freeze;split
        .exact Z
        .show(Array.modify _ _ _)[k]?=_;rw[Array.getElem?_modify,if_neg (by show ¬w.heap.size=k;omega)];exact Z
     exact GN j D (λe=>absurd e y) (λM=>RD Q I (by rw[J];rfl) (.int _ _) (by rw[r];rfl) .rU) (λb o h=>by simp at h)
    .have d:=Any.strconv_Atoi_syntax L s hn hA l w X V;rw[U]at d;refine d.mono λe w' ⟨N,B,_,_,z⟩=>⟨[.int .i64 0,.iface (ρ.t 168) (.pointer (some ⟨N,0,none⟩))],[none,none],M,B,?_⟩;exact GN j z (λe=>absurd e y) (λM=>RD Q I (by rw[J];rfl) (.int _ _) (by rw[r];rfl) (.ifc _ _)) (λb o h=>by simp at h)
    .have d:=Any.strconv_Atoi_range L s hn hA er w O K;rw[U]at d;refine d.mono λe w' ⟨N,B,_,_,z⟩=>⟨[.int .i64 (Lib.atoiSat s.data.toList),.iface (ρ.t 168) (.pointer (some ⟨N,0,none⟩))],[none,none],M,B,?_⟩;exact GN j z (λe=>absurd e y) (λM=>RD Q I (by rw[J];rfl) (.int _ _) (by rw[r];rfl) (.ifc _ _)) (λb o h=>by simp at h)
   .cases h
  .cases h
theorem Zn(D:gl≠none)(L:LaysM.n146 P ρ)(hf:ρ.f 146=f)(F:aX T.funcs f=some fi)(hb:fi.fn.body=some c)(X:fi.cfg.rets=[.fresh]){e:TypeId}(U:fi.fn.resultTypes=#[t])(S:und T t=some (.slice e))(V:ay T e=(false,[.str]))
    (Z:∀w:World,(∀p∈gl.getD [],w.heap[p.1]?=some p.2)->∃m,w.cell? ⟨ρ.g 1,0,none⟩=some (.int .i64 m)):BQ P T gl f KN:=by
  intro H args bl rs l9 O h;have:H=fi:=by rw[F]at O;exact(Option.some.inj O).symm
  subst this;unfold KN at h;split at h
  .next s z=>
   split at h
   .next b hsep=>
    split at h
    .next hn=>
     cases h;have J:z=⟨#[b]⟩:=ba_eq.2 hsep;subst J;refine⟨⟨_,hb⟩,σ,λw M β ak E j=>?_⟩;obtain⟨v,u,rfl,R,B⟩:=adx j;have A:=Ol R;subst A;have I:=Ol B;subst I;obtain⟨m,Y⟩:=Z w λp hp=>(E p hp).2;have d:=Any.strings_Split {L with} L.i9 s ⟨#[b]⟩ m w hn Y (qNr 1);rw[hf,UR]at d;have r:Lib.countB s ⟨#[b]⟩+1=(bG b s.data.toList).length:=by have N:=Lib.splitB_all ⟨#[b]⟩ (qNr 1) 0 _ s rfl;rw[UR,qLm]at N;exact N.symm
     rw[r]at d;refine d.mono λe' w' ⟨he,Q⟩=>⟨[.slice (some ⟨w.heap.size,0,none⟩) (bG b s.data.toList).length (bG b s.data.toList).length],[some (w.heap.size,0)],M,he,?_⟩;subst Q;refine GN j (YV _) (λe=>absurd e D) (λM=>?_) (λb o h=>?_)
     .have key:=aaA (T:=T) (w':=w.alloc (.cells (((bG b s.data.toList).map λl=>(⟨l.toArray⟩:ByteArray)).map Value.string).toArray (ρ.t 9))) (M:=M) (β:=β) (h:=look (dK 0 [])) (k:=.str)
        (xs:=(bG b s.data.toList).map λp=>PV.str (ba p)) (vs:=((bG b s.data.toList).map λl=>(⟨l.toArray⟩:ByteArray)).map Value.string) (el:=ρ.t 9) (n:=w.heap.size) (cap:=(bG b s.data.toList).length)
        X U S V σ σ σ ?_ ?_ ?_
      .simpa using key
      .show(w.heap.push _)[w.heap.size]?=_;simp
      .intro x y;obtain⟨p,-,rfl⟩:=List.mem_map.1 y;rfl
      .intro i x c y K;simp only[List.getElem?_map,Option.map_eq_some_iff]at y K;obtain⟨p,hp,rfl⟩:=y;obtain⟨q,⟨p',hp',rfl⟩,rfl⟩:=K;rw[hp]at hp';cases hp';exact⟨rfl,.str _⟩
     .simp only[List.mem_singleton,qOa,Prod.mk.injEq]at h;obtain⟨rfl,rfl⟩:=h;exact⟨σ,qNr _⟩
    .cases h
   .cases h
  .cases h
end
end
section
open Go.Lib
variable {P:Program}{ρ:Ren}
set_option maxHeartbeats 2000000 in
set_option maxRecDepth 100000 in
theorem aaB(L:SlLaysE0.n41 P ρ)(i0:TypeInfo)(z:Value)(size bytes:Nat)(hi:P.info? (ρ.t 23)=some i0)(p:i0.zero=some z)(o:i0.size=size)(l:i0.bytes=bytes)(h:z.cells.size=size)(r:0<size)
    (A:∀w,(Go.sizeOf (ρ.t 23)).run P w=.ok size w)(a:Addr)(c:Nat)(w:World) :
    Calls P (ρ.f 41) #[.slice (some a) 0 c] w λe w'=>∃v',e=.returned v'/\w'.ownsRow w.heap.size (ρ.t 23) size v' 0 []/\Below w.heap.size w w':=by
  have mixed:=L.mixed;have t4:=L.t4;have a4:=L.a4;have z4:=L.z4;have v4:=L.v4;have t22:=L.t22;have a22:=L.a22;have z22:=L.z22;have v22:=L.v22;have D:∀(w:World) (a:Option Addr) (n c g s:Nat),(binOp .eql (ρ.t 22) (.slice a n c) (.slice none g s)).run P w=.ok (.bool a.isNone) w:=λw a n c g s=>Lib.run_eql_slice_nil w _ _ a n c g s L.t22;have B:∀w,Sem.run P (underlying (ρ.t 22)) w=.ok (TypeDesc.slice (ρ.t 23)) w:=run_underlying t22;obtain⟨_,_,FG⟩:=L.f41
  go_enter FG,SlBodyN.n41_ntmps ρ
  go_wp2_with (at_builtin;refine wpList_append_own _ rfl _ _ (ρ.t 22) rfl w.heap.size (ρ.t 23) i0 z size bytes t22 hi p o l h r _ _ _ rfl (World.ownsRow_made w #[] 0 (qNr _) (Nat.zero_le _) σ) a 0 c [] rfl ?qc1 ?qc2 ?qc3 ?qc4 ?qc5 ?qc6 ?_)
  case qc1=>simp
  case qc2=>intro j u H;simp at H
  case qc3=>intro u E;simp at E
  case qc4=>simp
  case qc5=>simp
  case qc6=>simp
  intro v' I d hgrow y
  go_wp2
  go_ret
  refine⟨v',rfl,by simpa using d,?_⟩;exact((Below.refl _ w).alloc (qNr _) _).grown hgrow σ (by intro k F;simp[Value.ownBlock]at F;omega)
section
variable {T:Tab}{fi:FI}{β:Nat->Option (Nat × Nat)}
theorem UW{t e el:TypeId}{a:Bool}{ks:List Kd}{w':World}{v':Value}{base:Nat}{h:Nat->Option aH}(p:fi.cfg.rets=[.fresh])(l:fi.fn.resultTypes=#[t])(k:und T t=some (.slice e))(d:ay T e=(a,ks))
    (B:w'.ownsRow base el ks.length v' 0 []):∃ps,(∀M:Nat->Prop,qM T w' M β h fi.cfg.rets fi.fn.resultTypes.toList [.fresh a ks []] [v'] ps)/\∀b o,some (b,o)∈ps->b<w'.heap.size/\base<=b:=by
  have u:(ay T e).1=a:=by rw[d]
  have s:(ay T e).2=ks:=by rw[d]
  obtain⟨-,⟨rfl,-⟩ |⟨g,cap,j,rfl,D,r,-,-,A,-⟩⟩:=B
  .refine⟨[none],λM=>?_,λb o h=>by simp at h⟩;rw[p,l];refine .cons _ _ _ _ _ _ _ _ _ ?_ (.nil _) (λb o y _ h=>by cases h);have key:=rW.fresh (T:=T) (w:=w') (M:=M) (β:=β) (h:=h) t e [] (.slice none 0 0) none k;rw[u,s]at key;exact key (.gJ _ _) (.sliceE 0 0 a ks [] none rfl (qNr _))
  .refine⟨[some (g,0)],λM=>?_,λb o h=>?_⟩
   .rw[p,l];refine .cons _ _ _ _ _ _ _ _ _ ?_ (.nil _) (λb o y _ h=>by cases h);have key:=rW.fresh (T:=T) (w:=w') (M:=M) (β:=β) (h:=h) t e [] (.slice (some ⟨g,0,none⟩) 0 cap) (some (g,0)) k;rw[u,s]at key;refine key (.gJ _ _) ?_;have z:=AR.slice (w:=w') (M:=M) (β:=λ_=>some (g,0)) (h:=λ_=>some (.arr a ks [])) 0 0 0 a ks [] g 0 cap rfl σ rfl (Nat.zero_le _) ⟨j,el,(0,0),r,by simp;omega,λ_=>.inl rfl⟩;simpa using z
   .simp only[List.mem_singleton,qOa,Prod.mk.injEq]at h;obtain⟨rfl,rfl⟩:=h;exact⟨(qAa.1 r).1,D⟩
end
end
section
open Go.Lib
variable {w:World}{M:Nat->Prop}{c:Value}{W f n:Nat}{ks:List Kd}{a:Bool}{e t:TypeId}{gl:Option (List (Nat × Obj))}{fi:FI}
variable {P:Program}{ρ:Ren}{T:Tab}
theorem ajY{v:PV}(h:VR w M v c)(d:v.leaf=true):c.oneCell'=true:=by cases h<;>first |rfl |(simp[PV.leaf]at d)
def rowOf(f:Nat->Nat->Value)(n W:Nat):List Value:=(List.range (n*W)).map λq=>f (q / W) (q%W)
theorem Ak(f:Nat->Nat->Value)(n W:Nat):(rowOf f n W).length=n*W:=by simp[rowOf]
theorem Fq{f:Nat->Nat->Value}{i j:Nat}(hi:i<n)(d:j<W):(rowOf f n W)[i*W+j]?=some (f i j):=by
 have k:i*W+j<n*W:=by have:(i+1)*W<=n*W:=Nat.mul_le_mul_right W hi;grind
 have h:(i*W+j) / W=i:=by rw[Nat.mul_comm,Nat.mul_add_div ω,Nat.div_eq_of_lt d];omega
 have g:(i*W+j)%W=j:=by rw[Nat.mul_comm,Nat.mul_add_mod,Nat.mod_eq_of_lt d]
 grind[rowOf]
theorem KE{q:Nat}(h:q<n*W)(d:0<W):q / W<n/\q%W<W/\q / W*W+q%W=q:=
 ⟨Nat.div_lt_of_lt_mul (by rw[Nat.mul_comm];exact h),Nat.mod_lt _ d,by rw[Nat.mul_comm];exact Nat.div_add_mod q W⟩
structure aaC (w w':World) (M:Nat->Prop) (a:Bool) (ks:List Kd) (xs:List PV) (e:TypeId) (v':Value):Prop where
 below:Below w.heap.size w w'
 row:(xs=[]/\w'.ownsRow w.heap.size e ks.length v' 0 [])\/∃f,(∀(i:Nat) (x:PV) (j:Nat) (c:PV),xs[i]?=some x->x.cells[j]?=some c->VR w M c (f i j))/\(∀x∈xs,aA a ks x=true)/\w'.ownsRow w.heap.size e ks.length v' xs.length (rowOf f xs.length ks.length)
theorem NT(L:SlLaysE0.n41 P ρ){i0:TypeInfo}{z:Value}(hi:P.info? (ρ.t 23)=some i0)(l:i0.zero=some z)(k:i0.size=ks.length)(j:z.cells.size=ks.length)(K:i0.bytes<=1000)(d:0<ks.length)
    (h:∀w,(Go.sizeOf (ρ.t 23)).run P w=.ok ks.length w){xs:List PV}(O:VR w M (.list a ks xs) c)(Q:xs.length<=100000) :
    Calls P (ρ.f 41) #[c] w λe w'=>∃v',e=.returned v'/\aaC w w' M a ks xs (ρ.t 23) v':=by
  generalize p:xs=ys at O;cases O with
  |list _ _ _ b o cap f hM R Z S B=>
   subst p;have H:xs.length*i0.bytes<=140737488355328:=by
    have:=Nat.mul_le_mul Q K
    omega
   refine(AnyE.slices_Clone L i0 z ks.length i0.bytes hi l k rfl j d h b o xs.length cap (rowOf f xs.length ks.length) w (Ak _ _ _) (Nat.le_trans Q δ) H (λq u E=>?_) (λu V=>?_)).mono λe w' ⟨v',r,F,_,N⟩=>⟨v',r,N,.inr ⟨f,S,B,F⟩⟩
   .have D:q<xs.length*ks.length:=by rw[<-Ak f];exact(qLa.1 E).1
    obtain⟨g,s,h3⟩:=KE D d;have y:xs[q / ks.length]?=some xs[q / ks.length]:=qLd g;have X:xs[q / ks.length].cells.length=ks.length:=bV (B _ (List.getElem_mem g));have Y:=Z _ _ _ _ y (qLd (by rw[X];exact s));have h4:=Fq (f:=f) g s;grind
   .obtain⟨q,E,rfl⟩:=List.mem_map.1 V;obtain⟨g,s,h3⟩:=KE (List.mem_range.1 E) d;have y:xs[q / ks.length]?=some xs[q / ks.length]:=qLd g;have A:=B _ (List.getElem_mem g);obtain⟨c,J,I,_⟩:=rD A (qLd s);exact ajY (S _ _ _ _ y J) (iG I)
  |iM _ _ base cap=>
   subst p;cases base with
   |none=>exact(AnyE.slices_Clone_nil L 0 cap w).mono λe w' ⟨r,U⟩=>⟨_,r,U▸Below.refl _ _,.inl ⟨rfl,σ,.inl ⟨rfl,rfl⟩⟩⟩
   |some ad=>exact(aaB L i0 z ks.length i0.bytes hi l k rfl j d h ad cap w).mono λe w' ⟨v',r,F,N⟩=>⟨v',r,N,.inl ⟨rfl,F⟩⟩
section
variable {gl:Option (List (Nat × Obj))}{fi:FI}{w w':World}{M:Nat->Prop}{β:Nat->Option (Nat × Nat)}{ak:Array Value}{a:Bool}{ks:List Kd}{xs:List PV}{el:TypeId}{v':Value}
theorem Jg{args:List AV}(s:fi.cfg.shares=true)(D:ni w M β args [] ak)(d:Below w.heap.size w w')(p:gu gl w.drawn w'.drawn){r:List AV}{cs:List Value}{ps:List (Option (Nat × Nat))}{M':Nat->Prop}
    (y:∀b,M b->M' b)(l:∀b,M' b->M b\/w.heap.size<=b)(k:∀b,M' b->b<w'.heap.size)
    (g:qM T w' M' β (look (dK 0 [])) fi.cfg.rets fi.fn.resultTypes.toList r cs ps)(j:∀b o,some (b,o)∈ps->¬M' b/\b<w'.heap.size/\w.heap.size<=b):uP gl T fi w M β [] r [] w' M' cs ps:=by
  refine⟨g,j,λ_ h=>?_,y,l,k,λb h _=>d.block b h,?_,d.size,d.os,d.tape,d.output,p,rfl,?_⟩
  .grind
  .intro b n h u;obtain⟨C,e,fr,B,A,z⟩:=u;exact⟨C,e,fr,by rw[d.block b h];exact B,A,z⟩
  .simp
theorem YX(k:aaC w w' M a ks xs el v')(l:∀b,M b->b<w.heap.size)(D:0<ks.length) :
    ∃M':Nat->Prop,(∀b,M b->M' b)/\(∀b,M' b->M b\/w.heap.size<=b)/\(∀b,M' b->b<w'.heap.size)/\VR w' M' (.list a ks xs) v':=by
  have d:∀b,M b->b<w'.heap.size:=λb h=>Nat.lt_of_lt_of_le (l b h) k.below.size;have empty:xs=[]->(v'=.slice none 0 0\/∃g cap,v'=.slice (some ⟨g,0,none⟩) 0 cap)->∃M':Nat->Prop,(∀b,M b->M' b)/\(∀b,M' b->M b\/w.heap.size<=b)/\(∀b,M' b->b<w'.heap.size)/\VR w' M' (.list a ks xs) v':=by rintro rfl h;refine⟨M,λ_ h=>h,λ_ h=>.inl h,d,?_⟩;rcases h with rfl |⟨g,cap,rfl⟩<;>exact .iM _ _ _ _
  rcases k.row with⟨I,-,K⟩ |⟨f,B,y,z⟩
  .refine empty I ?_;grind
  .rcases z.2 with⟨h,L⟩ |⟨g,cap,J,h,s,H,o,_⟩
   .grind
   .subst h;refine⟨λb=>M b\/b=g,λb h=>.inl h,λb h=>h.imp id λ(e:b=g)=>e▸s,λb h=>h.elim (d b) λ(e:b=g)=>e▸(qAa.1 H).1,?_⟩;refine .list a ks xs g 0 cap f (.inr rfl) o (λi x j c p u=>?_) (λi x j c p u=>(B i x j c p u).mono λb A=>⟨.inl A,k.below.block b (l b A)⟩) y;have hi:i<xs.length:=(qLa.1 p).1;have r:xs[i]=x:=(qLa.1 p).2;have F:j<ks.length:=by rw[<-bV (y x (r▸List.getElem_mem hi))];exact(qLa.1 u).1
    have E:i*ks.length+j<xs.length*ks.length:=by have:(i+1)*ks.length<=xs.length*ks.length:=Nat.mul_le_mul_right _ hi;grind
    rw[qNz,z.cellAt _ E,Fq hi F]
theorem WM{h:Nat->Option aH}(r:aaC w w' M a ks xs el v')(H:∀b,M b->b<w.heap.size)(E:fi.cfg.rets=[.fresh])(D:fi.fn.resultTypes=#[t])(B:und T t=some (.slice e))(d:ay T e=(a,ks)) :
    ∃ps,qM T w' M β h fi.cfg.rets fi.fn.resultTypes.toList [.fresh a ks xs] [v'] ps/\∀b o,some (b,o)∈ps->b<w'.heap.size/\w.heap.size<=b:=by
  rcases r.row with⟨rfl,s⟩ |⟨f,O,K,s⟩
  .obtain⟨ps,y,u⟩:=UW (β:=β) (h:=h) E D B d s;exact⟨ps,y M,u⟩
  .by_cases V:xs=[]
   .subst V;have F:w'.ownsRow w.heap.size el ks.length v' 0 []:=by have:rowOf f ([]:List PV).length ks.length=[]:=List.length_eq_zero_iff.1 (by rw[Ak];simp);grind
    obtain⟨ps,y,u⟩:=UW (β:=β) (h:=h) E D B d F;exact⟨ps,y M,u⟩
   .have Y:(ay T e).1=a:=by rw[d]
    have X:(ay T e).2=ks:=by rw[d]
    obtain⟨-,⟨-,hz⟩ |⟨g,cap,k,rfl,I,L,l,-,p,Q⟩⟩:=id s
    .grind
    .refine⟨[some (g,0)],?_,λb o h=>?_⟩
     .rw[E,D];refine .cons _ _ _ _ _ _ _ _ _ ?_ (.nil _) (λb o Z _ h=>by cases h);have hopen:Open k (0,0):=.inl rfl;have key:=rW.fresh (T:=T) (w:=w') (M:=M) (β:=β) (h:=h) t e xs (.slice (some ⟨g,0,none⟩) xs.length cap) (some (g,0)) B;rw[Y,X]at key;have S:xs.length*ks.length<=k.size:=by rw[p];exact Nat.mul_le_mul_right _ l
      refine key ?_ ?_
      .refine .arr a ks xs g 0 k el (0,0) rfl L ω hopen K λi x j c A N=>?_;have hi:i<xs.length:=(qLa.1 A).1;have z:xs[i]=x:=(qLa.1 A).2;have U:j<ks.length:=by rw[<-bV (K x (z▸List.getElem_mem hi))];exact(qLa.1 N).1
       have R:i*ks.length+j<xs.length*ks.length:=by have:(i+1)*ks.length<=xs.length*ks.length:=Nat.mul_le_mul_right _ hi;grind
       have hcell:=s.cellAt _ R;rw[Fq hi U]at hcell;have hd:k.getD (0+i*ks.length+j) undef=f i j:=by simp_all[World.cell?]
       rw[hd];exact(O i x j c A N).mono λb I=>⟨I,r.below.block b (H b I)⟩
      .have J:=AR.slice (w:=w') (M:=M) (β:=λ_=>some (g,0)) (h:=λ_=>some (.arr a ks xs)) 0 0 xs.length a ks xs g 0 cap rfl σ rfl l (.mk L (by rw[p];simp) hopen);grind
     grind
end
def su(a:Bool)(ks:List Kd):uw:=λargs bl=>match args,bl with
 |[.p (.list a' ks' xs)],[]=>if(a'==a&&(Kd.zJ ks' ks&&decide (xs.length<=100000)))=true then some ([.p (.list a ks xs)],[])else none
 |_,_=>none
def Ih(a:Bool)(ks:List Kd):uw:=λargs bl=>match args,bl with
 |[.p (.list a' ks' xs)],[]=>if(a'==a&&(Kd.zJ ks' ks&&decide (xs.length<=100000)))=true then some ([.fresh a ks xs],[])else none
 |_,_=>none
structure FU (P:Program) (T:Tab) (ρ:Ren) (f:Nat) (fi:FI) (t e:TypeId) (a:Bool) (ks:List Kd):Prop where
 L:SlLaysE0.n41 P ρ
 hf:ρ.f 41=f
 hfi:aX T.funcs f=some fi
 hb:∃c,fi.fn.body=some c
 hs:fi.cfg.shares=true
 ht:fi.fn.resultTypes=#[t]
 hu:und T t=some (.slice e)
 hsh:ay T e=(a,ks)
 info:∃i0 z,P.info? (ρ.t 23)=some i0/\i0.zero=some z/\i0.size=ks.length/\z.cells.size=ks.length/\i0.bytes<=1000
 hsz:0<ks.length
 z23:∀w,(Go.sizeOf (ρ.t 23)).run P w=.ok ks.length w
theorem Eh(p:gl≠none)(A:FU P T ρ f fi t e a ks)(N:fi.cfg.rets=[.deep])(l:ay T t=(false,[.slice a ks])):BQ P T gl f (su a ks):=by
 intro s args bl S V u h;have:s=fi:=by rw[A.hfi]at u;exact(Option.some.inj u).symm
 subst this;unfold su at h;split at h
 .next a' ks' xs=>
  split at h
  .next hc=>simp only[qBa,beq_iff_eq,qDa]at hc;obtain⟨rfl,r,O⟩:=hc;have r:=Kd.oG _ _ r;subst r;cases h;refine⟨A.hb,σ,λw M β ak Q d=>?_⟩;obtain⟨v,rfl,K⟩:=Ap d;obtain⟨i0,z,J,I,H,F,E⟩:=A.info;have g:=NT A.L J I H F E A.hsz A.z23 K O;rw[A.hf]at g;refine g.mono λX w' ⟨v',R,j⟩=>?_;obtain⟨M',D,B,y,k⟩:=YX j d.dJ A.hsz;refine⟨[v'],[none],M',R,Jg A.hs d j.below (λe=>absurd e p) D B y ?_ (λb o h=>by simp at h)⟩;rw[N,A.ht];exact .cons _ _ _ _ _ _ _ _ _ (.deep _ _ _ (by rw[l];simp[aA,kindOk,Kd.kL]) k) (.nil _) (λb o U h=>by cases h)
  .cases h
 .cases h
theorem Xn(k:gl≠none)(A:FU P T ρ f fi t e a ks)(I:fi.cfg.rets=[.fresh]):BQ P T gl f (Ih a ks):=by
 intro p args bl Q R r h;have:p=fi:=by rw[A.hfi]at r;exact(Option.some.inj r).symm
 subst this;unfold Ih at h;split at h
 .next a' ks' xs=>
  split at h
  .next hc=>simp only[qBa,beq_iff_eq,qDa]at hc;obtain⟨rfl,l,J⟩:=hc;have l:=Kd.oG _ _ l;subst l;cases h;refine⟨A.hb,σ,λw M β ak K d=>?_⟩;obtain⟨v,rfl,H⟩:=Ap d;obtain⟨i0,z,F,E,D,B,y⟩:=A.info;have g:=NT A.L F E D B y A.hsz A.z23 H J;rw[A.hf]at g;refine g.mono λS w' ⟨v',N,j⟩=>?_;obtain⟨ps,u,s⟩:=WM (β:=β) (h:=look (dK 0 [])) j d.dJ I A.ht A.hu A.hsh;refine⟨[v'],ps,M,N,Jg A.hs d j.below (λe=>absurd e k) (λ_ h=>h) (λ_ h=>.inl h) (λb h=>Nat.lt_of_lt_of_le (d.dJ b h) j.below.size) u (λb o h=>⟨λO=>?_,s b o h⟩)⟩;have:=d.dJ b O;grind
  .cases h
 .cases h
end
section
variable {cs:List Value}{e t t2:TypeId}{w:World}{cy v v0:Value}{q:Option (Nat × Nat)}{x:PV}{i:TypeInfo}{b m:Nat}{ys:List PV}{C:Array Value}{fr:Nat × Nat}{G:Bool->World->Prop}
variable {P:Program}{ρ:Ren}
def aaD:Value->PV
 |.int .u8 n=>.int .u8 n
 |_=>.nil
theorem af2(h:∀c∈cs,∃n,c=.int .u8 n):(cs.map aaD).map iQ=cs:=by
 rw[List.map_map]
 conv=>rhs;rw[<-List.map_id cs]
 refine List.map_congr_left λc d=>?_;obtain⟨n,rfl⟩:=h c d;rfl
theorem aaE(h:∀c∈cs,∃n,c=.int .u8 n):∀x∈cs.map aaD,aA false [.int .u8] x=true:=by intro x d;obtain⟨c,g,rfl⟩:=List.mem_map.1 d;obtain⟨n,rfl⟩:=h c g;rfl
structure aaF (e:TypeId) (w:World) (q:Option (Nat × Nat)) (cs:List Value) (v':Value) (w':World):Prop where
 row:∃q',zh e w' v' q' cs/\∀g o,q'=some (g,o)->(∃o',q=some (g,o'))\/w.heap.size<=g
 keep:∀k,k<w.heap.size->(∀o,q≠some (k,o))->w'.heap[k]?=w.heap[k]?
 size:w.heap.size<=w'.heap.size
 os:w'.os=w.os
 tape:w'.tape=w.tape
 output:w'.output=w.output
 drawn:w.drawn<=w'.drawn
theorem aej(h:zh e w v q cs){g o:Nat}(d:q=some (g,o)):g<w.heap.size:=by rcases h with⟨rfl,_⟩ |⟨b,cap,C,fr,rfl,_,_,_,h4,_⟩;all_goals grind
theorem abO{M:Nat->Prop}{c:PV}(d:aA false [.int .u8] x=true)(g:x.cells[0]?=some c)(h:VR w M c v):v=iQ x:=by obtain⟨n,rfl⟩:=Dl d;cases g;cases h;rfl
theorem Dv(d:aA false [.int .u8] x=true):x.cells[0]?=some x:=by obtain⟨n,rfl⟩:=Dl d;rfl
theorem aaG{xs:List PV}(l:zh e w v q (xs.map iQ))(d:∀x∈xs,aA false [.int .u8] x=true):QA P w (λ_=>False) false [.int .u8] xs.length xs v:=by
 rcases l with⟨_,g,rfl⟩ |⟨b,cap,C,fr,_,rfl,y,h4,h5,u,s,r⟩
 .have k:xs=[]:=by simpa using g
  subst k;exact nY none 0
 .rw[qLm];refine BJ (P:=P) (w:=w) (M:=λ_=>False) (a:=false) (ks:=[.int .u8]) (xs:=xs) b 0 cap (λi _=>C.getD i undef) (λi x j c h g=>?_) (λi x j c h g=>?_) d
  all_goals
   obtain⟨n,o⟩:=Dl (d x (qLe h));subst o;have p:j=0/\c=.int .u8 n:=by grind[PV.cells]
   obtain⟨rfl,rfl⟩:=p
  .have hi:i<C.size:=θ
   simp_all[World.cell?]
  .rw[r i (.int .u8 n) (by rw[List.getElem?_map,h];rfl)];exact .int _ _
theorem DW{P:Program}{b o:Nat}{e:TypeId}{fr:Nat × Nat}:∀(vs:List Value) (i:Nat) (w:World) (C:Array Value),w.heap[b]?=some (.cells C e fr)->Past (o+i) fr->o+i+vs.length<=C.size ->
    (∀v∈vs,v.oneCell'=true)->(storeCells ⟨b,o,none⟩ vs i).run P w=.ok () (fJ w b (dO C (o+i) vs) e fr)
  |[],i,w,C,hw,_,hl,_=>by
   have:dO C (o+i) []=C:=by simp[dO,patch]
   rw[this,Np hw];rfl
  |v::r,i,w,C,hw,d,hl,h1=>by
   simp only[qLl]at hl;have hcell:w.cell? ⟨b,o+i,none⟩=some (C.getD (o+i) undef):=pY hw ω;have g:w.frozen? ⟨b,o+i,none⟩=false:=by simp only[World.frozen?,hw];simp only[Bool.and_eq_false_iff,decide_eq_false_iff_not];rcases d with d |d<;>omega
   have j:=(qAa.1 hw).1;simp only[storeCells,Sem.run_bind,addr_add,run_store P w _ v .plain (h1 v σ),hcell,g,Bool.false_eq_true,if_false,qRa,setCell_eq hw];rw[DW r (i+1) _ (C.setIfInBounds (o+i) v) (uS hw) (d.mono ω) (by simp;omega) (λu h=>h1 u (by simp[h])),Hf];congr 2;rw[<-Nat.add_assoc];exact Us (by simp;omega)
theorem ahF{ts:Array TypeId}{ty:TypeId}(h0:ts[0]?=some t)(h1:ts[1]?=some t2)(hu:P.underlying t=some (.slice e))(hi:P.info? e=some i)(hz:i.zero=some v0)(B:i.size=1)(K:i.bytes<=16384)(U:v0.cells.size=1)
    (hr:zh e w v q cs)(hb:∀c∈cs,∃n,c=.int .u8 n)(V:∀y∈ys,aA false [.int .u8] y=true)
    (R:yG P w (λ_=>False) t2 v0 false [.int .u8] m ys cy)(L:yG P w.drew (λ_=>False) t2 v0 false [.int .u8] m ys cy)(Q:cs.length+m<=2147483648) :
    ∃v' w',(Builtin.append_ ts ty #[v,cy]).run P w=.ok v' w'/\aaF e w q (cs++ys.map iQ) v' w':=by
  have A:ys.length=m:=R.1;let xs:=cs.map aaD;have Z:xs.length=cs.length:=by simp[xs]
  have F:xs.map iQ=cs:=af2 hb;have Y:=aaE hb;obtain⟨zeros,td,d,b3,b4,b5,b6,b7,b8⟩:=R.both L;have one:∀u∈d.toList,u.oneCell'=true:=R.one d b5 b6;have hCB:∀(j:Nat) (y:PV),ys[j]?=some y->d.getD j undef=iQ y:=λj y p=>by
   have E:=V y (qLe p);have:=b6 j y 0 y p (Dv E);have N:j*[Kd.int IntKind.u8].length+0=j:=σ
   rw[N]at this;exact abO E (Dv E) this
  have O:d.size=m:=by simpa using b5
  have grow:∀(base:Option Addr) (cap:Nat),v=.slice base cs.length cap->cap<cs.length+m->0<cs.length+m->(∀g o,q=some (g,o)->g<w.heap.size)->∃v' w',(Builtin.append_ ts ty #[v,cy]).run P w=.ok v' w'/\aaF e w q (cs++ys.map iQ) v' w':=by
   intro base cap hv hgr hpos hq;have hrd:zh e w.drew v q (xs.map iQ):=by rw[F];exact hr
   have hA:QA P w.drew (λ_=>False) false [.int .u8] xs.length xs v:=aaG hrd Y;rw[hv,Z]at hA;obtain⟨D,sZ,g1,g2,g3,g4,g5,g6⟩:=Dj (ty:=ty) (ks:=[.int .u8]) h0 h1 hu hi hz B K U Q hA R L hgr;refine⟨_,_,by rw[hv];exact g1,⟨⟨some (w.heap.size,0),.inr ⟨w.heap.size,sZ,D,(0,0),rfl,?_,?_,?_,lC (w:=w.drew),?_,Or.inl rfl,λj c l=>?_⟩,λg o hg=>by cases hg;exact .inr (qNr _)⟩,λk hk _=>alloc_old (w:=w.drew) hk,σ,rfl,rfl,rfl,Nat.le_succ _⟩⟩
   .simp[A]
   .grind
   .grind
   .grind
   .have hc:cs++ys.map iQ=(xs++ys).map iQ:=by rw[List.map_append,F]
    rw[hc,List.getElem?_map]at l;cases p:(xs++ys)[j]? with
    |none=>rw[p]at l;simp at l
    |some y=>
     rw[p]at l;simp only[Option.map_some,qOa]at l;subst l;have E:=g4 y (qLe p);have:=g6 j y 0 y p (Dv E);have N:j*[Kd.int IntKind.u8].length+0=j:=σ
     rw[N]at this;exact abO E (Dv E) this
  have z:∀(base:Option Addr) (len cap:Nat) (S:World),len+m<=2147483648->len+m<=cap->StR P base (len*1) d w S->(Builtin.append_ ts ty #[.slice base len cap,cy]).run P w=.ok (.slice base (len+m) cap) S:=by intro base len cap S Q hcap s;exact II (ks:=[.int .u8]) h0 h1 hu hi hz B K b3 b4 Q (C:=d) b7 b8 (λ_=>⟨rfl,by simpa using s⟩) (λh=>ω)
  rcases hr with⟨rfl,rfl,rfl⟩ |⟨b,cap,C,fr,rfl,rfl,h3,h4,h5,h6,h7,h8⟩
  .by_cases hm0:m=0
   .subst hm0;have X:ys=[]:=by simpa using A
    subst X;have r:=z none 0 0 w δ (qNr _) rfl;exact⟨.slice none 0 0,w,r,⟨⟨none,.inl ⟨rfl,rfl,rfl⟩,λg o h=>by cases h⟩,λ_ _ _=>rfl,qNr _,rfl,rfl,rfl,qNr _⟩⟩
   .exact grow none 0 rfl (by simp;omega) (by simp;omega) λg o h=>by cases h
  .by_cases J:cs.length+m<=cap
   .have hroom:0+cs.length*1+d.toList.length<=C.size:=by simp[O];omega
    have s:=DW (P:=P) (b:=b) (o:=0+cs.length*1) (e:=e) (fr:=fr) d.toList 0 w C h5 (h7.mono ω) (by simpa using hroom) one;rw[Nat.add_zero]at s;have r:=z (some ⟨b,0,none⟩) cs.length cap (fJ w b (dO C (0+cs.length*1) d.toList) e fr) Q J (by simp only[StR,addr_add];simpa using s);have hlt:b<w.heap.size:=(qAa.1 h5).1;have H:=uS (C':=dO C (0+cs.length*1) d.toList) h5;have B:=gU (vs:=d.toList) hroom;have I:=λj=>qh (vs:=d.toList) hroom j;have hoth:∀k,k≠b->(fJ w b (dO C (0+cs.length*1) d.toList) e fr).heap[k]?=w.heap[k]?:=λk hkb=>by simp only[fJ];rw[qAe (λe=>hkb e.symm)]
    have hws:(fJ w b (dO C (0+cs.length*1) d.toList) e fr).heap.size=w.heap.size:=by simp[fJ]
    have ho1:(fJ w b (dO C (0+cs.length*1) d.toList) e fr).os=w.os:=rfl;have ho2:(fJ w b (dO C (0+cs.length*1) d.toList) e fr).tape=w.tape:=rfl;have ho3:(fJ w b (dO C (0+cs.length*1) d.toList) e fr).output=w.output:=rfl;have ho4:(fJ w b (dO C (0+cs.length*1) d.toList) e fr).drawn=w.drawn:=rfl;generalize fJ w b (dO C (0+cs.length*1) d.toList) e fr=w2 at *;generalize dO C (0+cs.length*1) d.toList=C2 at *;refine⟨_,w2,r,⟨⟨some (b,0),.inr ⟨b,cap,C2,fr,rfl,?_,?_,?_,H,?_,h7.mono σ,λj c l=>?_⟩,λg o h=>by cases h;exact .inl ⟨0,rfl⟩⟩,λk hk hne=>?_,?_,ho1,ho2,ho3,?_⟩⟩
    .simp[A]
    .grind
    .simp;omega
    .omega
    .rw[I];by_cases hjl:j<cs.length
     .grind
     .rw[List.getElem?_append_right ω,List.getElem?_map]at l;cases p:ys[j-cs.length]? with
      |none=>rw[p]at l;simp at l
      |some y=>
       rw[p]at l;simp only[Option.map_some,qOa]at l;subst l;have hjm:=(qLa.1 p).1;rw[if_pos (by simp[O];omega)];have N:j-(0+cs.length*1)=j-cs.length:=ω
       rw[N];have:=hCB _ y p;simpa using this
    .grind
    all_goals omega
   .exact grow _ cap rfl ω ω λg o h=>by cases h;exact(qAa.1 h5).1
theorem af4(w:World):Rel ⟨w,0,Nat.zero_le _,none⟩ (λ_=>False) (λ_=>False) (λ_=>False) (λ_=>none) {env:=[],heap:=[]} {tmps:=#[],defers:=[]} w:=
 ⟨qNr _,λt v h=>by simp at h,λs blk d=>by simp[look]at d,λs b o d=>by simp[look]at d,λs g b o j d=>by simp[look]at d,λb h=>h.elim,λb h=>h.elim,λb h=>h.elim,λ_ _ _=>rfl,λb n h=>by simp at h,qNr _,rfl,rfl,rfl,λp hp=>by simp at hp⟩
theorem YZ(h:P.underlying t2=some .string)(v0:Value)(x:ByteArray)(w:World):yG P w (λ_=>False) t2 v0 false [.int .u8] x.size (xI x) (.string x):=
 yG.ZW h rfl (ER (P:=P) (af4 w) (h':=look []) (λ_ _ h=>h) (y:=.p (.str x)) (c:=.string x) (.p _ _ (.str x)) (s2:=some (false,[.int .u8])) rfl rfl)
theorem aaH{ops:Array Oper}{d:List Oper}{o:Oper}{a:Act}{Q:Exit->Act->World->Prop}(p:o.guard=none)(sl x:Operand)(t t2:TypeId)
    (D:o.op=.call {callee:=.builtin .append,args:=#[sl,x],argTypes:=#[t,t2]})
    (A:P.underlying t=some (.slice e))(hi:P.info? e=some i)(u:i.zero=some v0)(k:i.size=1)(r:i.bytes<=16384)(g:v0.cells.size=1)
    (B:a.eval sl=v)(l:zh e w v q cs)(F:∀c∈cs,∃n,c=.int .u8 n)(z:a.eval x=cy)(j:∀y∈ys,aA false [.int .u8] y=true)
    (I:yG P w (λ_=>False) t2 v0 false [.int .u8] m ys cy)(s:yG P w.drew (λ_=>False) t2 v0 false [.int .u8] m ys cy)(E:cs.length+m<=2147483648)
    (h:∀v' w',aaF e w q (cs++ys.map iQ) v' w'->wpList P ops Q d (a.put o.dst v') w'):wpList P ops Q (o::d) a w:=by
  refine wpList_plain p λK H=>?_;obtain⟨v',w',l,J⟩:=ahF (P:=P) (ty:=o.type) (ts:=#[t,t2]) rfl rfl A hi u k r g l F j I s E;unfold Oper.wp execOp;simp only[D,resolve,invoke,builtin,Sem.run_bind,Sem.run_pure,qRa,List.map_toArray,List.map_cons,List.map_nil,B,z,l];exact H _ _ (h v' w' J)
theorem UY(h:DI e w t b q cs C fr):C=#[C.getD 0 undef,C.getD 1 undef]:=by
 have:=h.hn;apply Array.ext
 .omega
 .intro i g d;have:i=0\/i=1:=by simp at d;omega
  rcases this with rfl|rfl<;>simp[Array.getD,g]
theorem NU(h:w.heap[b]?=some (.cells C t fr))(d:Open C fr){j:Nat}(g:j<C.size):w.frozen? ⟨b,j,none⟩=false:=by have:=d.at j g;grind[World.frozen?]
set_option maxHeartbeats 1000000 in
set_option maxRecDepth 100000 in
theorem Oj(L:Lays.n240 P ρ)(X:Builder.X72 P ρ)(b:Nat)(w:World)(y:w.cell? ⟨b,0,none⟩=some (.pointer none))(d:w.shape? b=some (t,2))(r:w.frozen? ⟨b,0,none⟩=false)
    (p:liesAt P P.depth t (2 / P.cellsOf t) 0 (ρ.t 72) 1=true) :
    Calls P (ρ.f 240) #[.pointer (some ⟨b,0,none⟩)] w λe w'=>e=.returned (.tuple #[])/\w'=w.setCell ⟨b,0,none⟩ (.pointer (some ⟨b,0,none⟩)):=by
  obtain⟨j,k,g⟩:=Option.map_eq_some_iff.1 X.sizeBuilder;have mixed:=L.mixed;have t72:=L.t72;have a72:=L.a72;have z72:=L.z72;have v72:=L.v72;have l:=run_underlying L.t72;have t70:=L.t70;have a70:=L.a70;have z70:=L.z70;have v70:=L.v70;have o:=run_underlying L.t70;have t9:=L.t9;have a9:=L.a9;have z9:=L.z9;have v9:=L.v9;have s:=run_underlying L.t9;have t4:=L.t4;have a4:=L.a4;have z4:=L.z4;have v4:=L.v4;have u:=run_underlying L.t4;have t164:=L.t164;have a164:=L.a164;have z164:=L.z164;have v164:=L.v164;have h:=run_underlying L.t164
  go_enter L.f240,Body.n240_ntmps ρ
  go_wp2
  rw[Lib.run_to_unsafe w ⟨b,0,none⟩ L.t70 L.t164 k (by rw[g];decide) d (Nat.zero_lt_succ 1)];simp only[Result.andThen];rw[Oper.upon_value]
  go_wp2
  rw[run_callFunc_extern L.f276 τ τ τ (e:=Extern.AbiNoEscape.same) τ];rw[Lib.run_noEscape];simp only[Result.andThen];rw[Oper.upon_value]
  go_wp2
  rw[Lib.run_from_unsafe w ⟨b,0,none⟩ L.t164 L.t70 k d p];simp only[Result.andThen];rw[Oper.upon_value]
  go_wp2
  go_end0
  exact⟨rfl,rfl⟩
theorem Y0(L:Lays.n240 P ρ)(X:Builder.X72 P ρ)(h:DI e w t b q cs C fr)(g:liesAt P P.depth t (2 / P.cellsOf t) 0 (ρ.t 72) 1=true) :
    Calls P (ρ.f 240) #[.pointer (some ⟨b,0,none⟩)] w λe w'=>e=.returned (.tuple #[])/\w'.heap[b]?=some (.cells #[.pointer (some ⟨b,0,none⟩),C.getD 1 undef] t fr)/\(∀k,k≠b->w'.heap[k]?=w.heap[k]?)/\w'.heap.size=w.heap.size/\w'.os=w.os/\w'.tape=w.tape/\w'.output=w.output/\w'.drawn=w.drawn:=by
  have j:=UY h;have d:b<w.heap.size:=(qAa.1 h.hw).1;have c0:w.cell? ⟨b,0,none⟩=some (C.getD 0 undef):=by grind[World.cell?,h.hw]
  rcases h.h0 with e |e
  .rw[e]at c0;refine(Oj L X b w c0 (by simp only[World.shape?,h.hw];rw[h.hn]) (NU h.hw h.ho (by rw[h.hn];decide)) g).mono ?_;grind[World.setCell,h.hw]
  .rw[e]at c0;refine(Any.Builder_copyCheck_used L X b w c0).mono ?_;grind[h.hw]
theorem Ii{w':World}(h:zh e w v q cs)(j:∀g o,q=some (g,o)->w'.heap[g]?=w.heap[g]?):zh e w' v q cs:=by
 rcases h with h |⟨b,cap,C,fr,d,p,l,h4,h5,k⟩
 .exact .inl h
 .exact .inr ⟨b,cap,C,fr,d,p,l,h4,(j b 0 d).trans h5,k⟩
set_option maxHeartbeats 2000000 in
set_option maxRecDepth 100000 in
theorem agI(L:Lays.n166 P ρ)(X:Builder.Extra P ρ)(ts:List TypeId)(hlies:∀t∈ts,liesAt P P.depth t (2 / P.cellsOf t) 0 (ρ.t 72) 1=true):Po P G (ρ.f 166) ts (ρ.t 5) .ael:=by
 intro t ht w b q cs C fr x p hm;obtain⟨i0,hi,N,K,J⟩:=info_parts X.infoByte;have mixed:=L.mixed;have t72:=L.t72;have a72:=L.a72;have z72:=L.z72;have v72:=L.v72;have u72:=run_underlying L.t72;have t70:=L.t70;have a70:=L.a70;have z70:=L.z70;have v70:=L.v70;have u70:=run_underlying L.t70;have t37:=L.t37;have a37:=L.a37;have z37:=L.z37;have v37:=L.v37;have u37:=run_underlying L.t37;have t3:=L.t3;have a3:=L.a3;have z3:=L.z3;have v3:=L.v3;have u3:=run_underlying L.t3;have t9:=L.t9;have a9:=L.a9;have z9:=L.z9;have v9:=L.v9;have u9:=run_underlying L.t9;have t4:=L.t4;have a4:=L.a4;have z4:=L.z4;have v4:=L.v4;have u4:=run_underlying L.t4;have t164:=L.t164;have a164:=L.a164;have z164:=L.z164;have v164:=L.v164;have Y:=run_underlying L.t164;have t5:=X.t5;have a5:=X.a5;have z5:=X.z5;have v5:=X.v5;have u5:=run_underlying X.t5;have Z:∀args w,(callFunc (ρ.f 240) args).run P w=.ok (.enter (ρ.f 240) args) w:=enters_of L.f240 τ rfl
 go_enter L.f166,Body.n166_ntmps ρ
 go_wp2_with (go_at_fn (ρ.f 240);refine(Y0 {L with} X.toX72 p (hlies t ht)).mono ?_)
 rintro e E ⟨rfl,j,s,hsz,Q,O,R,hdr⟩;have r:zh (ρ.t 5) E (C.getD 1 undef) q cs:=Ii p.h1 λg o h=>s g λe=>p.ne o (e▸h);generalize C.getD 1 undef=v at j r;have c0:E.cell? ⟨b,0,none⟩=some (.pointer (some ⟨b,0,none⟩)):=by rw[Lib.cell_of_heap j];rfl
 have c1:E.cell? ⟨b,1,none⟩=some v:=by rw[Lib.cell_of_heap j];rfl
 go_wp2_with (at_builtin;refine aaH rfl _ _ (ρ.t 37) (ρ.t 9) rfl L.t37 hi N K (by rw[J];decide) rfl rfl r p.bytes rfl (JW x) (YZ L.t9 _ x _) (YZ L.t9 _ x _) hm ?_)
 intro v' z d;rw[QJ]at d;obtain⟨q',A,u⟩:=d.row;have S:b<E.heap.size:=(qAa.1 j).1;have l:z.heap[b]?=some (.cells #[.pointer (some ⟨b,0,none⟩),v] t fr):=by rw[d.keep b S p.ne];exact j
 have B:Open #[Value.pointer (some ⟨b,0,none⟩),v] fr:=p.ho.size (by rw[p.hn];rfl);have d0:z.cell? ⟨b,0,none⟩=some (.pointer (some ⟨b,0,none⟩)):=by rw[Lib.cell_of_heap l];rfl
 have d1:z.cell? ⟨b,1,none⟩=some v:=by rw[Lib.cell_of_heap l];rfl
 have f1:z.frozen? ⟨b,1,none⟩=false:=NU l B σ;obtain⟨V,I,cap,rfl⟩:∃V I cap,v'=.slice V I cap:=by obtain⟨base,cap,h⟩:=ac6 A;exact⟨_,_,_,h⟩
 go_wp2
 go_ret2
 refine⟨rfl,⟨λk hk D U=>?_,?_,?_,?_,?_,?_⟩,.slice V I cap,q',?_,?_,λg o F=>?_⟩
 .simp only[World.setCell,Array.getElem?_modify];rw[if_neg (Ne.symm D),d.keep k ω U,s k D]
 .have:=d.size;simp[World.setCell];omega
 .exact d.os.trans Q
 .exact d.tape.trans O
 .exact d.output.trans R
 .intro _;have:=d.drawn;show w.drawn<=z.drawn;omega
 .simp only[World.setCell,Array.getElem?_modify,l,Option.map_some];rfl
 .refine Ii A λg o F=>?_;have y:g≠b:=by
   rintro rfl;rcases u g o F with⟨H,h⟩ |h
   .exact p.ne H h
   .omega
  simp only[World.setCell,Array.getElem?_modify];rw[if_neg (Ne.symm y)]
 .have y:g≠b:=by
    rintro rfl;rcases u g o F with⟨H,h⟩ |h
    .exact p.ne H h
    .omega
  refine⟨y,(u g o F).imp id λh=>ω⟩
set_option maxHeartbeats 1000000 in
set_option maxRecDepth 100000 in
theorem aiZ(L:Lays.n169 P ρ)(X:Builder.Extra P ρ)(ts:List TypeId):Po P G (ρ.f 169) ts (ρ.t 5) .str:=by
 intro t V w b q l C fr z Z;have hC:=UY z;have c1:w.drew.cell? ⟨b,1,none⟩=some (C.getD 1 undef):=by
  have I:w.drew.heap[b]?=some (.cells #[C.getD 0 undef,C.getD 1 undef] t fr):=by rw[<-hC];exact z.hw
  rw[Lib.cell_of_heap I];rfl
 have mixed:=L.mixed;have t72:=L.t72;have a72:=L.a72;have z72:=L.z72;have v72:=L.v72;have u72:=run_underlying L.t72;have t70:=L.t70;have a70:=L.a70;have z70:=L.z70;have v70:=L.v70;have u70:=run_underlying L.t70;have t37:=L.t37;have a37:=L.a37;have z37:=L.z37;have v37:=L.v37;have u37:=run_underlying L.t37;have t127:=L.t127;have a127:=L.a127;have z127:=L.z127;have v127:=L.v127;have S:=run_underlying L.t127;have t3:=L.t3;have a3:=L.a3;have z3:=L.z3;have v3:=L.v3;have u3:=run_underlying L.t3;have t9:=L.t9;have a9:=L.a9;have z9:=L.z9;have v9:=L.v9;have u9:=run_underlying L.t9;have t5:=X.t5;have a5:=X.a5;have z5:=X.z5;have v5:=X.v5;have u5:=run_underlying X.t5;have R:JR True w b q w.drew:=⟨λ_ _ _ _=>rfl,qNr _,rfl,rfl,rfl,λ_=>Nat.le_succ _⟩;have au1:=Any.unsafeString_none L X;have y:=z.h1;have u:=z.ne;clear z hC;generalize C.getD 1 undef=v at c1 y;rcases y with⟨rfl,h2,rfl⟩ |⟨g,cap,D,d,rfl,rfl,h4,h5,A,h7,h8,h9⟩
 .have hl:l=[]:=by simpa[vP] using h2
  subst hl;have J:(Builtin.unsafeSliceData_ #[(ρ.t 37)] (ρ.t 127) #[.slice none 0 0]).run P w.drew=.ok (.pointer none) w.drew:=rfl
  go_enter L.f169,Body.n169_ntmps ρ
  go_wp2
  go_region_o
  all_goals (go_wp2;go_ret;exact⟨rfl,R,rfl,λg o h=>by cases h⟩)
 .have r:(vP l).length=l.length:=by simp[vP]
  rw[r]at c1 h4 h5;have h0:l≠[]:=λe=>by subst e;simp at h5
  have J:(Builtin.unsafeSliceData_ #[(ρ.t 37)] (ρ.t 127) #[.slice (some ⟨g,0,none⟩) l.length cap]).run P w.drew=.ok (.pointer (some ⟨g,0,none⟩)) w.drew:=
   Lib.run_unsafeSliceData_row _ _ _ _ _ _ ω
  have hUS:(Builtin.unsafeString_ #[(ρ.t 127),(ρ.t 3)] (ρ.t 9) #[.pointer (some ⟨g,0,none⟩),.int .i64 l.length]).run P w.drew=.ok (.string ⟨l.toArray⟩) (w.drew.freeze ⟨g,0,none⟩ l.length):=by
   refine Lib.run_unsafeString_row w.drew (ρ.t 127) (ρ.t 3) (ρ.t 9) (ρ.t 5) L.t127 X.cellsByte g D.size (by have p:w.drew.heap[g]?=some (.cells D (ρ.t 5) d):=A;simp[World.shape?,p]) l h0 ω ω ?_;intro j x U;have hj:j<l.length:=(qLa.1 U).1;have hD:=h9 j (.int .u8 x.toNat) (by simp[vP,U]);have p:w.drew.heap[g]?=some (.cells D (ρ.t 5) d):=A;have s:j<D.size:=ω
   have e1:((⟨g,0,none⟩:Addr).add j)=⟨g,j,none⟩:=by simp[Addr.add];intro h;exact h.symm
   rw[e1];simp only[World.cell?,p,Option.isSome_none,Bool.false_eq_true,if_false];rw[qAd s];have:D.getD j undef=D[j]:=by simp[Array.getD,s]
   rw[<-this,hD]
  have Q:JR True w b (some (g,0)) (w.drew.freeze ⟨g,0,none⟩ l.length):=by
   have hf:∀k,k≠g->(w.drew.freeze ⟨g,0,none⟩ l.length).heap[k]?=w.heap[k]?:=λk Y=>by
    unfold World.freeze;split
    .rfl
    .simp only[Array.getElem?_modify];rw[if_neg (Ne.symm Y)];rfl
   have hs:(w.drew.freeze ⟨g,0,none⟩ l.length).heap.size=w.heap.size:=by
    unfold World.freeze;split
    .rfl
    .simp
   have hd:(w.drew.freeze ⟨g,0,none⟩ l.length).drawn=w.drawn+1:=by unfold World.freeze;split<;>rfl
   have ho:(w.drew.freeze ⟨g,0,none⟩ l.length).os=w.os:=by unfold World.freeze;split<;>rfl
   have V:(w.drew.freeze ⟨g,0,none⟩ l.length).tape=w.tape:=by unfold World.freeze;split<;>rfl
   have hp:(w.drew.freeze ⟨g,0,none⟩ l.length).output=w.output:=by unfold World.freeze;split<;>rfl
   exact⟨λk Y hkb F=>hf k λe=>F 0 (by rw[e]),by rw[hs];exact qNr _,ho,V,hp,λ_=>by rw[hd];exact Nat.le_succ _⟩
  have O:(w.drew.freeze ⟨g,0,none⟩ l.length).heap[b]?=w.heap[b]?:=by
   have H:b≠g:=λe=>u 0 (by rw[e]);unfold World.freeze;split
   .rfl
   .simp only[Array.getElem?_modify];rw[if_neg (Ne.symm H)];rfl
  have N:∀E o,some (g,0)=some (E,o)->∃C e fr B,w.heap[E]?=some (.cells C e fr)/\(w.drew.freeze ⟨g,0,none⟩ l.length).heap[E]?=some (.cells C e B)/\Past l.length B:=by
   intro E o h;cases h;have K:Past l.length d:=by simpa[vP] using h8
   refine⟨D,ρ.t 5,d,(if d.1==d.2 then(0,0+l.length)else(min d.1 0,max d.2 (0+l.length))),A,?_,?_⟩
   .unfold World.freeze;rw[if_neg ω];simp only[Array.getElem?_modify];rw[show w.drew.heap[g]?=some (.cells D (ρ.t 5) d) from A];rfl
   .split
    .exact .inr σ
    .next hne=>
     rcases K with h |h
     .exact absurd (by simpa using h) hne
     .exact .inr (by simp;omega)
  clear h9 h8 h7 A h5 h4
  go_enter L.f169,Body.n169_ntmps ρ
  go_wp2
  go_region_o
  all_goals (go_wp2;go_ret;exact⟨rfl,Q,O,N⟩)
end
end Go.Skm
