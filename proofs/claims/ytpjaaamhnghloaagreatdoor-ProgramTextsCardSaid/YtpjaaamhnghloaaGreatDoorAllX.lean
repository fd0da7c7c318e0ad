import Derived.Test.YtpjaaamhnghloaaGreatDoorAll4
import Derived.Test.YtpjaaamhnghloaaGreatDoorPL1
import Derived.Deep.OwnRows
import Derived.RangeFuncLeaves
import Derived.RangeFuncBox
import Derived.Test.YtpjaaamhnghloaaGreatDoorSkmE
set_option linter.all false
namespace Go.Skm.Prg
open Go Go.Skm Go.Proofs Go.RowKit Go.Shelf
section
open Go.Maps Go.Sort
variable {M:Nat -> Prop}{k:Nat}
theorem adA(rd:Option Nat):(FW rd).round=rd:=rfl
attribute [local go_sem] Oper.semAt_some adA
def OO(p:Pg)(k t:Int):List PV:=[.ref [.list false [.str] (eN p.names),.list true dW (dw p.homes),.list true gY (lH p.acts)],.ref [.int .i64 k],.ref [.int .i64 t]]
theorem aoV:aX tab.funcs 46=some abP:=τ
theorem aoW:aX tab.funcs 79=some adB:=τ
theorem af8:iW adB 3=true:=τ
section
variable {gl:Option (List (Nat × Obj))}{X:Ext} (hX:Mine X)
include hX
theorem aiF(B:dS Tryz.prog tab gl (run tab X))(p:Pg)(k t:Int){W:World}{v:Value}(r:VR W M (eG p) v)(l:∀p∈gl.getD [],M p.1/\W.heap[p.1]?=some p.2)(A:∀b,M b->b<W.heap.size) :
    Calls Tryz.prog 46 #[v,.int .i64 k,.int .i64 t] W λe w'=>∃d M',e=.returned (.func (.func 79) #[] d)/\d.size=3/\(∀(i:Nat) (c:PV),(OO p k t)[i]?=some c->VR w' M' c (d.getD i undef))/\(∀b,M b->M' b)/\(∀b,M' b->M b\/W.heap.size<=b)/\(∀b,M' b->b<w'.heap.size) /\
     (∀b,b<W.heap.size->w'.heap[b]?=W.heap[b]?)/\W.heap.size<=w'.heap.size/\w'.os=W.os/\w'.tape=W.tape/\w'.output=W.output:=by
  obtain⟨_,h⟩:=B.plain 46 abP [.p (eG p),Ab k,Ab t] [] _ _ aoV σ (c46 X hX p k t);refine(h W M (λ_=>none) #[v,.int .i64 k,.int .i64 t] l ⟨rfl,λi u a=>?_,λi b h=>by simp at h,λi b o h=>by simp at h,λi j b o G h=>by simp at h,A⟩).mono λe w' ⟨cs,ps,M',w,hp⟩=>?_
  .match i,a with
   |0,a=>cases a;exact .p _ _ r
   |1,a=>cases a;exact .p _ _ (.int _ _)
   |2,a=>cases a;exact .p _ _ (.int _ _)
  .have g:=hp.res;have f:abP.fn.resultTypes.toList=[102]:=τ
   rw[f]at g;generalize abP.cfg.rets=ms at g;cases g with
   |cons _ _ _ _ _ c D F n m C H=>
    cases C;generalize q:(AV.p (.fn 79 [.ref [.list false [.str] (eN p.names),.list true dW (dw p.homes),.list true gY (lH p.acts)],.ref [.int .i64 k],.ref [.int .i64 t]]))=x at m;generalize ms.headD dV.deep=mo at m;have E:VR w' M' (.fn 79 (OO p k t)) c:=by cases m<;>cases q<;>assumption
    cases E with
    |fn _ _ vs s y=>refine⟨vs,M',w,s,y,hp.dJ,hp.jH,hp.mlt,λb z=>hp.keep b z (λi o h=>by simp at h),hp.size,hp.os,hp.tape,hp.output⟩
theorem akP(d:GY Tryz.prog tab gl (run tab X))(e:jd X)(p:Pg)(hp:Small p)(c:bU p=true)(k:Nat)(a:k<p.acts.length):OQ Tryz.prog gl 79 (OO p k (jI (p.acts.take k))) ((vg p k).map OT):=by obtain⟨q1,j,i,g,f,b⟩:=Y8 c a;have h:=c79 X hX e p hp k a (jI (p.acts.take k)) ω;have:=(d 79 adB (OO p k (jI (p.acts.take k))) _ aoW af8 h).2;rw[<-b];exact this
end
theorem WT(a b:List Ac):jI (a++b)=jI a+jI b:=by
 induction a with
 |nil=>simp[jI]
 |cons x r c=>simp only[List.cons_append,jI,c];omega
theorem abQ(a:List Ac)(h:k<a.length):jI (a.take k)+a[k].len=jI (a.take (k+1)):=by rw[List.take_succ_eq_append_getElem h,WT];simp[jI]
theorem Jc{α:Type}{n j:Nat}{a v:α}(h:(List.replicate n a)[j]?=some v):v=a:=by
 rw[List.getElem?_replicate]at h;split at h
 .cases h;rfl
 .cases h
theorem RG(v:Value)(n:Nat):madeCells #[v] n=(List.replicate n v).toArray:=by
 apply Array.ext
 .rw[size_madeCells];simp
 .intro i b a;simp[madeCells,Nat.mod_one]
theorem Y9{w:World}{p:Pg}{E r:Value}{t:Option Addr}{m l:Nat}(h:VR w M (eG p) (.agg #[E,r,.slice t m l]))(s:k<p.acts.length) :
    ∃b o x n g j,t=some ⟨b,o,none⟩/\M b/\w.cell? ⟨b,o+k*3,none⟩=some (.string x)/\w.cell? ⟨b,o+k*3+1,none⟩=some (.int .i64 p.acts[k].len)/\w.cell? ⟨b,o+k*3+2,none⟩=some (.slice n g j):=by
  cases h with
  |agg _ _ G H z=>
   have q:=z 2 _ rfl;have q:VR w M (.list true gY (lH p.acts)) (.slice t m l):=q;generalize i:lH p.acts=xs at q;cases q with
   |iM=>rw[show p.acts=[] by simpa[lH] using i]at s;simp at s
   |list _ _ _ b o cap f A u c a F=>
    subst i;have d:(lH p.acts)[k]?=some (eA p.acts[k]):=by rw[lH,List.getElem?_map,qLd s];rfl
    have c0:=c k _ 0 _ d rfl;have c1:=c k _ 1 _ d rfl;have l:=c k _ 2 _ d rfl;have v:=a k _ 0 _ d rfl;have r:=a k _ 1 _ d rfl;have e:=a k _ 2 _ d rfl;have C:f k 1=.int .i64 p.acts[k].len:=af9 r;rw[C]at c1;have D:f k 0=.string (ba p.acts[k].name):=Ol v;rw[D]at c0;obtain⟨n,g,j,B⟩:∃n g j,f k 2=.slice n g j:=by have e:VR w M (.list true yM (D8 p.acts[k].dG)) (f k 2):=e;generalize f k 2=y at e;generalize D8 p.acts[k].dG=ys at e;cases e<;>exact⟨_,_,_,rfl⟩
    rw[B]at l;exact⟨b,o,_,n,g,j,rfl,A,c0,c1,l⟩
set_option maxRecDepth 100000 in
set_option maxHeartbeats 4000000 in
theorem all_walk{gl:Option (List (Nat × Obj))}(hne:gl≠none){X:Ext}(hX:Mine X)(hC:dS Tryz.prog tab gl (run tab X))(hS:GY Tryz.prog tab gl (run tab X))(hCl:jd X)(p:Pg)(hp:Small p)(f:bU p=true)(w:World)(M:Nat->Prop)(Q:∀b,M b->b<w.heap.size)(N:∀p∈gl.getD [],M p.1/\w.heap[p.1]?=some p.2)
    (F:Option Addr)(n c0:Nat)(G:Value)(UZ:Option Addr)(m C:Nat)(hn:n=p.names.length)(hm:m=p.acts.length)(WS:VR w M (eG p) (.agg #[.slice F n c0,G,.slice UZ m C]))
    (R:Ending->World->Prop)(hR:∀(Mx:Nat->Prop) (vs:List Value) (r:List Nat) (w1 w':World),Held w M (w.heap.size+2) (w.heap.size+1) Mx vs (mY p p.acts.length) w1->(∀D∈r,¬Mx D/\w.heap.size+3<=D/\w1.heap[D]?=some (.deferred (some [])))->(∀b,b ∉ r->w'.heap[b]?=w1.heap[b]?)->w'.heap.size=w1.heap.size->w'.os=w1.os->w'.tape=w1.tape->w'.output=w1.output ->
      R (.returned (.slice (some ⟨w.heap.size+1,0,none⟩) vs.length vs.length)) w') :
    Calls Tryz.prog 47 #[.agg #[.slice F n c0,G,.slice UZ m C]] w R:=by
  have asF:n<=64:=by rw[hn];exact(um f).1.2.1
  have asG:m<=60:=by rw[hm];exact(um f).2.1
  have HN:Hid (n=p.names.length):=hn;have HM:Hid (m=p.acts.length):=hm;have HV:Hid (bU p=true):=f;clear hn hm f;refine jv (rd:=none) (n:=0) (callsIn_of_wp_marks Tryz.func47 rfl trivial ?_);simp only[Tryz.ntmps47,List.size_toArray,qLl,List.length_nil,Nat.reduceAdd,Nat.reduceSub,Array.replicate_succ,Array.replicate_zero,List.push_toArray,List.append_toArray,List.nil_append,List.cons_append];have hmk:=run_make_row' (P:=Tryz.prog) 42 50 (.slice none 0 0) 24 Tryz.underlying42 adC rfl .i64 .i64 n ω ω
  gi_wp2
  rename_i K hK;obtain⟨W0,z⟩:∃W0,(((w.alloc (Obj.cells #[Value.slice F n c0,G,Value.slice UZ m C] 26)).alloc (Obj.cells (madeCells #[Value.slice none 0 0] n) 50)).alloc (Obj.cells #[Value.slice (some {block:=w.heap.size+1,off:=0}) n n] 42))=W0:=⟨_,rfl⟩;rw[z];have hs0:W0.heap.size=w.heap.size+3:=by rw[<-z];simp
  have akQ:∀b,b<w.heap.size->W0.heap[b]?=w.heap[b]?:=λb O=>by rw[<-z,Below.heap_alloc _ _ _ (by simp;omega),Below.heap_alloc _ _ _ (by simp;omega),Below.heap_alloc _ _ _ O]
  have hp0:W0.heap[w.heap.size]?=some (.cells #[.slice F n c0,G,.slice UZ m C] 26 (0,0)):=by rw[<-z,Below.heap_alloc _ _ _ (by simp;omega),Below.heap_alloc _ _ _ σ];exact World.alloc_heap_new w _
  have hr0:W0.heap[w.heap.size+1]?=some (.cells (List.replicate n (.slice none 0 0)).toArray 50 (0,0)):=by rw[<-z,Below.heap_alloc _ _ _ σ];have:=World.alloc_heap_new (w.alloc (Obj.cells #[Value.slice F n c0,G,Value.slice UZ m C] 26)) (Obj.cells (madeCells #[Value.slice none 0 0] n) 50);rw[World.size_alloc]at this;rw[this,RG]
  have hl0:W0.heap[w.heap.size+2]?=some (.cells #[.slice (some ⟨w.heap.size+1,0,none⟩) n n] 42 (0,0)):=by rw[<-z];have:=World.alloc_heap_new ((w.alloc (Obj.cells #[Value.slice F n c0,G,Value.slice UZ m C] 26)).alloc (Obj.cells (madeCells #[Value.slice none 0 0] n) 50)) (Obj.cells #[Value.slice (some {block:=w.heap.size+1,off:=0}) n n] 42);rw[World.size_alloc,World.size_alloc]at this;exact this
  have H0:Held w M (w.heap.size+2) (w.heap.size+1) M (List.replicate n (.slice none 0 0)) (mY p 0) W0:=by
   have hb0:Below w.heap.size w W0:=by rw[<-z];exact(((Below.refl _ w).alloc (qNr _) _).alloc σ _).alloc (by simp;omega) _
   refine⟨by rw[List.length_replicate];exact hl0,hr0,by rw[oD,List.length_replicate,HN.out],λj v q f hq=>?_,λi j v u g f hu hg=>?_,hb0,λb O=>⟨by have:=Q b O;omega,.inl O⟩,λj v g f hg=>?_,⟨λh=>by have:=Q _ h;omega,λh=>by have:=Q _ h;omega⟩,⟨ω,ω⟩⟩
   .rw[Za]at hq;have f:=Jc f;have hq:=Jc hq;subst f hq;exact⟨[],⟨rfl,.inl ⟨rfl,rfl⟩⟩,rfl,λt c v h=>by simp[Aj]at h⟩
   .have f:=Jc f;subst f;cases hg
   .have f:=Jc f;subst f;cases hg
  clear z hmk
  refine wpIn_loop (λa d=>∃(k:Nat) (t:Int) (Mx:Nat->Prop) (vs:List Value) (r:List Nat) (u:Nat->Value),k<=m/\a={tmps:=#[.agg #[.slice F n c0,G,.slice UZ m C],.pointer (some ⟨w.heap.size,0,none⟩),.slice none 0 0,.pointer (some ⟨w.heap.size+1+1,0,none⟩),.int .i64 t,u 5,u 6,u 7,undef,.pointer (some ⟨w.heap.size,0,none⟩),.slice F n c0,.int .i64 n,.slice (some ⟨w.heap.size+1,0,none⟩) n n,.pointer (some ⟨w.heap.size,2,none⟩),.slice UZ m C,.int .i64 m,.int .i64 k,u 17,u 18,u 19,u 20,u 21,u 22,u 23,u 24,undef,undef,undef,undef,undef,undef,undef,undef,undef,undef,undef,undef,undef,u 38,u 39,u 40,u 41,u 42,undef],defers:=r.map qc} /\
      t=jI (p.acts.take k)/\Held w M (w.heap.size+2) (w.heap.size+1) Mx vs (mY p k) d/\r.Nodup/\(∀D∈r,¬Mx D/\w.heap.size+3<=D/\d.heap[D]?=some (.deferred (some [])))/\w.heap.size+3<=d.heap.size/\d.heap[w.heap.size]?=some (.cells #[.slice F n c0,G,.slice UZ m C] 26 (0,0)))
    (λa _=>m-(intOf (a.tmps.getD 16 undef)).toNat) ?_ ?_
  .exact⟨0,0,M,_,[],λ_=>undef,Nat.zero_le _,rfl,rfl,H0,List.nodup_nil,λD h=>by simp at h,ω,hp0⟩
  clear H0 hl0 hr0 hp0 akQ hs0;rintro a d ⟨k,t,Mx,vs,r,u,hk,rfl,ht,H,hnd,hds,hsz,Y⟩;have HT:Hid (t=jI (p.acts.take k)):=ht;have HH:Hid (Held w M (w.heap.size+2) (w.heap.size+1) Mx vs (mY p k) d):=H;have HD:Hid (∀D∈r,¬Mx D/\w.heap.size+3<=D/\d.heap[D]?=some (.deferred (some []))):=hds;clear ht H hds;by_cases hkm:k<m
  .obtain⟨b,o,s0,al,ll,cl,rfl,hMb,c0',c1',c2'⟩:=Y9 WS (k:=k) (by rw[<-HM.out];exact hkm);have hbw:=Q b hMb;have hcell:∀i v,w.cell? ⟨b,i,none⟩=some v->d.cell? ⟨b,i,none⟩=some v:=λi v h=>(HH.out.below.cell (p:=⟨b,i,none⟩) hbw).trans h;have d0:=hcell _ _ c0';have d1:=hcell _ _ c1';have d2:=hcell _ _ c2';obtain⟨len,hlen⟩:∃len,(p.acts[k]'(by rw[<-HM.out];exact hkm)).len=len:=⟨_,rfl⟩;have hwB:w.heap.size<d.heap.size:=ω
   rw[hlen]at d1;clear c0' c1' c2' hcell;have q0:d.cell? ⟨w.heap.size,0,none⟩=some (.slice F n c0):=by simp[World.cell?,Y]
   have q1:d.cell? ⟨w.heap.size,1,none⟩=some G:=by simp[World.cell?,Y]
   have q2:d.cell? ⟨w.heap.size,2,none⟩=some (.slice (some ⟨b,o,none⟩) m C):=by simp[World.cell?,Y]
   have hcall:∀W:World,Below w.heap.size w W->Calls Tryz.prog 46 #[.agg #[.slice F n c0,G,.slice (some ⟨b,o,none⟩) m C],.int .i64 k,.int .i64 t] W λe w'=>∃U M',e=.returned (.func (.func 79) #[] U)/\U.size=3/\(∀(i:Nat) (c:PV),(OO p k t)[i]?=some c->VR w' M' c (U.getD i undef))/\(∀b,M b->M' b)/\(∀b,M' b->M b\/W.heap.size<=b)/\(∀b,M' b->b<w'.heap.size) /\
       (∀b,b<W.heap.size->w'.heap[b]?=W.heap[b]?)/\W.heap.size<=w'.heap.size/\w'.os=W.os/\w'.tape=W.tape/\w'.output=W.output:=λW hW=>by
     exact aiF hX hC p k t (WS.mono λb O=>⟨O,hW.block b (Q b O)⟩) (λx A=>⟨(N x A).1,(hW.block _ (Q _ (N x A).1)).trans (N x A).2⟩) (λb O=>Nat.lt_of_lt_of_le (Q b O) hW.size)
   have aoX:Hid (∀W:World,Below w.heap.size w W->Calls Tryz.prog 46 #[.agg #[.slice F n c0,G,.slice (some ⟨b,o,none⟩) m C],.int .i64 k,.int .i64 t] W λe w'=>∃U M',e=.returned (.func (.func 79) #[] U)/\U.size=3/\(∀(i:Nat) (c:PV),(OO p k t)[i]?=some c->VR w' M' c (U.getD i undef))/\(∀b,M b->M' b)/\(∀b,M' b->M b\/W.heap.size<=b)/\(∀b,M' b->b<w'.heap.size) /\
       (∀b,b<W.heap.size->w'.heap[b]?=W.heap[b]?)/\W.heap.size<=w'.heap.size/\w'.os=W.os/\w'.tape=W.tape/\w'.output=W.output):=hcall
   clear hcall;have hfn:(FW none).fn 46:=trivial
   gi_wp2
   refine⟨rfl,(bW none (aoX.out _ ((HH.out.below.alloc ω _).alloc (by simp;omega) _))).mono ?_⟩;rintro e W2 ⟨U,M',rfl,hlb,hlv,hm1,l,hm3,y,V,L,J,T⟩;obtain⟨W1,B⟩:∃W1,(d.alloc (Obj.cells #[Value.string s0,Value.int IntKind.i64 len,Value.slice al ll cl] 72)).alloc (Obj.cells #[Value.int IntKind.i64 0] 3)=W1:=⟨_,rfl⟩;rw[B]at l y V L J T;have HL:Hid (U.size=3/\(∀(i:Nat) (c:PV),(OO p k t)[i]?=some c->VR W2 M' c (U.getD i undef))/\(∀b,M b->M' b)/\(∀b,M' b->M b\/W1.heap.size<=b)/\(∀b,M' b->b<W2.heap.size)/\(∀b,b<W1.heap.size->W2.heap[b]?=W1.heap[b]?)/\W1.heap.size<=W2.heap.size/\W2.os=W1.os/\W2.tape=W1.tape/\W2.output=W1.output):=⟨hlb,hlv,hm1,l,hm3,y,V,L,J,T⟩;clear hlb hlv hm1 l hm3 y V L J T;dsimp only
   gi_wp2
   have hkp:k<p.acts.length:=by rw[<-HM.out];exact hkm
   obtain⟨hlb,hlv,hm1,l,hm3,y,V,L,J,T⟩:=HL.out;have hs1:W1.heap.size=d.heap.size+2:=by rw[<-B];simp
   have hk1:∀b,b<d.heap.size->W1.heap[b]?=d.heap[b]?:=λb O=>by rw[<-B,Below.heap_alloc _ _ _ (by simp;omega),Below.heap_alloc _ _ _ O]
   have ha1:W1.heap[d.heap.size]?=some (.cells #[.string s0,.int .i64 len,.slice al ll cl] 72 (0,0)):=by rw[<-B,Below.heap_alloc _ _ _ σ];exact World.alloc_heap_new d _
   have hb1:W1.heap[d.heap.size+1]?=some (.cells #[.int .i64 0] 3 (0,0)):=by rw[<-B];have:=World.alloc_heap_new (d.alloc (Obj.cells #[Value.string s0,Value.int IntKind.i64 len,Value.slice al ll cl] 72)) (Obj.cells #[Value.int IntKind.i64 0] 3);rw[World.size_alloc]at this;exact this
   have ho1:W1.os=d.os/\W1.tape=d.tape/\W1.output=d.output:=by rw[<-B];exact⟨rfl,rfl,rfl⟩
   have hkk:∀b,b<d.heap.size->W2.heap[b]?=d.heap[b]?:=λb O=>(y b ω).trans (hk1 b O);have H2:Held w M (w.heap.size+2) (w.heap.size+1) Mx vs (mY p k) W2:=HH.out.grow ω hkk (L.trans ho1.1) (J.trans ho1.2.1) (T.trans ho1.2.2);have Z:∀(j:Nat) (v:Value) (g:Nat),vs[j]?=some v->v.ownBlock=some g->w.heap.size<=g/\g<d.heap.size:=λj v g f hg=>by obtain⟨q,_,hr⟩:=HH.out.at_ f;exact hr.lt g hg
   have aoY:=HH.out.lt;have hact:=Y8 HV.out hkp;have hit:=akP hX hS hCl p hp HV.out k hkp;rw[<-HT.out]at hit
   have pay:∀(D:Nat) (W3:World) (E:Nat->Prop) (s:List Value),Held w M (w.heap.size+2) (w.heap.size+1) E s (mY p (k+1)) W3->W3.heap[D]?=some (.deferred (some []))->W2.heap.size<=D->¬E D->W2.heap.size<=W3.heap.size ->
       (∀b,b<W2.heap.size->b≠d.heap.size+1->b≠w.heap.size+2->b≠w.heap.size+1->(∀(j:Nat) (v:Value),vs[j]?=some v->v.ownBlock≠some b)->W3.heap[b]?=W2.heap[b]?)->(∀b,E b->Mx b\/M' b\/W2.heap.size<=b) ->
       (qc D::r.map qc=(D::r).map qc)/\Held w M (w.heap.size+2) (w.heap.size+1) E s (mY p (k+1)) W3/\(D::r).Nodup/\(∀D'∈D::r,¬E D'/\w.heap.size+3<=D'/\W3.heap[D']?=some (.deferred (some [])))/\w.heap.size+3<=W3.heap.size/\W3.heap[w.heap.size]?=some (.cells #[.slice F n c0,G,.slice (some ⟨b,o,none⟩) m C] 26 (0,0))/\W3.heap[d.heap.size]?=some (.cells #[.string s0,.int .i64 len,.slice al ll cl] 72 (0,0)):=by
     intro D W3 E s H3 hD hD0 hMD hs3 hk3 I;have hdl:∀D'∈r,D'<d.heap.size:=λD' S=>(qAa.1 (HD.out D' S).2.2).1;have hkeep:∀x,x<d.heap.size->x≠w.heap.size+2->x≠w.heap.size+1->(∀(j:Nat) (v:Value),vs[j]?=some v->v.ownBlock≠some x)->W3.heap[x]?=d.heap[x]?:=λx A n1 n2 n3=>(hk3 x ω ω n1 n2 n3).trans (hkk x A);refine⟨rfl,H3,List.nodup_cons.2 ⟨λh=>by have:=hdl D h;omega,hnd⟩,λD' S=>?_,ω,?_,?_⟩
     .rcases List.mem_cons.1 S with rfl |S
      .exact⟨hMD,ω,hD⟩
      .obtain⟨e1,e2,e3⟩:=HD.out D' S;have e4:=hdl D' S;refine⟨λh=>?_,e2,(hkeep D' e4 ω ω λj v f e=>?_).trans e3⟩
       .rcases I D' h with h |h |h
        .exact e1 h
        .rcases l D' h with h |h
         .have:=Q D' h;omega
         .omega
        .omega
       .exact HH.out.own_ne f e e3 (λcur h=>by cases h) rfl
     .refine(hkeep _ hwB ω ω λj v f e=>?_).trans Y;exact HH.out.own_ne f e Y (λcur h=>by have:=(Obj.cells.inj h).2.1;exact absurd this δ) rfl
     .refine(hk3 _ ω ω ω ω λj v f e=>?_).trans ((y _ ω).trans ha1);have:=(Z j v _ f e).2;omega
   have PAY:Hid (∀(D:Nat) (W3:World) (E:Nat->Prop) (s:List Value),Held w M (w.heap.size+2) (w.heap.size+1) E s (mY p (k+1)) W3->W3.heap[D]?=some (.deferred (some []))->W2.heap.size<=D->¬E D->W2.heap.size<=W3.heap.size ->
       (∀b,b<W2.heap.size->b≠d.heap.size+1->b≠w.heap.size+2->b≠w.heap.size+1->(∀(j:Nat) (v:Value),vs[j]?=some v->v.ownBlock≠some b)->W3.heap[b]?=W2.heap[b]?)->(∀b,E b->Mx b\/M' b\/W2.heap.size<=b) ->
       (qc D::r.map qc=(D::r).map qc)/\Held w M (w.heap.size+2) (w.heap.size+1) E s (mY p (k+1)) W3/\(D::r).Nodup/\(∀D'∈D::r,¬E D'/\w.heap.size+3<=D'/\W3.heap[D']?=some (.deferred (some [])))/\w.heap.size+3<=W3.heap.size/\W3.heap[w.heap.size]?=some (.cells #[.slice F n c0,G,.slice (some ⟨b,o,none⟩) m C] 26 (0,0))/\W3.heap[d.heap.size]?=some (.cells #[.string s0,.int .i64 len,.slice al ll cl] 72 (0,0))):=pay
   clear pay;refine adD (w0:=w) (M0:=M) (Bl:=w.heap.size+2) (Br:=w.heap.size+1) (Bi:=d.heap.size+1) (Mx:=Mx) (vs:=vs) (qs:=mY p k) (ps:=vg p k) hne hit SI.symm ?_ rfl rfl rfl rfl (M1:=M') (by rw[hlb];rfl) hlv H2 ((y _ ω).trans hb1) ω (λh=>by have:=(HH.out.mlt _ h).1;omega) (λx A=>⟨hm3 x A,?_,?_,?_,?_,λj v f e=>?_⟩) (λx A=>⟨hm1 _ (N x A).1,?_⟩) (by rw[xw,oD];exact qNr _) (abS HV.out hkp) (λj=>?_) (by rw[xw];have:=hp.names;omega) ?_
   .rw[round_eq,WU];rfl
   .rcases l x A with h |h
    .exact .inl h
    .right;omega
   .rintro rfl;rcases l _ A with h |h
    .have:=Q _ h;omega
    .omega
   .rintro rfl;rcases l _ A with h |h
    .have:=Q _ h;omega
    .omega
   .rintro rfl;rcases l _ A with h |h
    .have:=Q _ h;omega
    .omega
   .have h1:=Z j v x f e;rcases l _ A with h |h
    .have:=Q _ h;omega
    .omega
   .have:=Q _ (N x A).1;rw[hkk _ ω,HH.out.below.block _ this];exact(N x A).2
   .have e1:=adE p k ω j;have e2:=abT p k j;omega
   rw[Zb p k hkp];intro D W3 E s H3 hD hD0 hMD hs3 hk3 I;obtain⟨y1,y2,y3,y4,y5,y6,y7⟩:=PAY.out D W3 E s H3 hD hD0 hMD hs3 hk3 I;have Y2:Hid _:=y2;have Y4:Hid _:=y4;have z1:W3.cell? ⟨d.heap.size,1,none⟩=some (.int .i64 len):=by simp[World.cell?,y7]
   have hadd:IntKind.i64.wrap (t+len)=t+len:=wrap_eq (by have:=HT.out;omega) (by have:=HT.out;omega);have aoZ:IntKind.i64.wrap ((k:Int)+1)=((k+1:Nat):Int):=cZ k ω;clear H3 hD hD0 hMD hs3 hk3 I y2 y4 PAY HL hit H2 Z hact hkk ho1 hb1 ha1 hk1 hs1 hlb hlv hm1 l hm3 y V L J T aoY q0 q1 q2 d0 d1 d2 B
   gi_wp2
   refine⟨⟨k+1,t+len,E,s,D::r,fun
    |5=>.int .i64 k
    |6=>.pointer (some ⟨d.heap.size,0,none⟩)
    |7=>.pointer (some ⟨d.heap.size+1,0,none⟩)
    |17=>.bool true
    |18=>.int .i64 k
    |19=>.pointer (some ⟨b,o+k*3,none⟩)
    |20=>.agg #[.string s0,.int .i64 len,.slice al ll cl]
    |21=>.agg #[.slice F n c0,G,.slice (some ⟨b,o,none⟩) m C]
    |22=>.int .i64 k
    |23=>.int .i64 t
    |24=>.func (.func 79) #[] U
    |38=>.int .i64 t
    |39=>.pointer (some ⟨d.heap.size,1,none⟩)
    |40=>.int .i64 len
    |41=>.int .i64 (t+len)
    |42=>.int .i64 ((k+1:Nat):Int)
    |_=>undef,ω,rfl,?_,Y2.out,y3,Y4.out,y5,y6⟩,?_⟩
   .rw[HT.out,<-hlen,abQ p.acts hkp]
   .show m-((k:Int)+1).toNat<m-(k:Int).toNat
    omega
  .have ao1:k=p.acts.length:=by have:=HM.out;omega
   have l1:=(cell_of_box_a HH.out.lbox).1;have l1:d.cell? ⟨w.heap.size+1+1,0,none⟩=some (.slice (some ⟨w.heap.size+1,0,none⟩) vs.length vs.length):=l1;have HH':Hid (Held w M (w.heap.size+2) (w.heap.size+1) Mx vs (mY p p.acts.length) d):=by have:=HH.out;rw[ao1]at this;exact this
   gi_wp2
   show LeavesInM (FW none) 0 Tryz.prog Tryz.f47 _ R (r.map qc) .returning d;refine lT r d hnd (λD hD=>(HD.out D hD).2.2) λw' k1 k2 k3 k4 k5 _=>?_;refine⟨_,results_tmp rfl _ _ _,?_⟩;exact hR Mx vs r d w' HH'.out HD.out k1 k2 k3 k4 k5
end
section
variable {X:Ext}{gl:Option (List (Nat × Obj))}{M:Nat->Prop}{v:Value}
theorem D9{α β:Type}{f:α->β}(d:∀a b,f a=f b->a=b):∀l c:List α,l.map f=c.map f->l=c
 |[],[],_=>rfl
 |a::l,b::c,h=>by simp only[List.map_cons,List.cons.injEq]at h;rw[d a b h.1,D9 d l c h.2]
 |[],_::_,h=>by simp at h
 |_::_,[],h=>by simp at h
theorem zC{a b:List UInt8}(h:ba a=ba b):a=b:=by have:=congrArg (λx:ByteArray=>x.data.toList) h;simpa[ba] using this
theorem aiS{a b:Ac}(h:eA a=eA b):a=b:=by simp only[eA,PV.agg.injEq,List.cons.injEq,PV.str.injEq,PV.int.injEq,PV.list.injEq,true_and,and_true]at h;obtain⟨d,g,c⟩:=h;have i:=zC d;have f:a.dG=b.dG:=D9 (λx y e=>by simp only[eM,PV.agg.injEq,List.cons.injEq,PV.int.injEq,true_and,and_true]at e;obtain⟨l,k,e3,j,e5,e6⟩:=e;rcases x with⟨⟨_,_,_⟩,_,_,_⟩;simp_all) _ _ c;clear d c;rcases a with⟨_,_,_⟩;simp_all
theorem aiT{p q:Pg}(h:eG p=eG q):p=q:=by simp only[eG,PV.agg.injEq,List.cons.injEq,PV.list.injEq,true_and,and_true]at h;obtain⟨c,b,a⟩:=h;have g:p.names=q.names:=D9 (λx y e=>by simp only[PV.str.injEq]at e;exact zC e) _ _ c;have f:p.homes=q.homes:=D9 (λx y e=>by simp only[aQ,PV.agg.injEq,List.cons.injEq,PV.int.injEq,true_and,and_true]at e;exact V3.ext' e.1 e.2.1 e.2.2) _ _ b;have d:p.acts=q.acts:=D9 (λx y e=>aiS e) _ _ a;clear c b a;rcases p with⟨_,_,_⟩;simp_all
open Classical in
noncomputable def Zf:uw:=λargs bl=>match args,bl with
 |[.p g],[]=>if h:∃p,Small p/\bU p=true/\eG p=g then some ([.fresh false [.slice true iV] (H7 h.choose)],[])else none
 |_,_=>none
theorem agk(p:Pg)(hp:Small p)(a:bU p=true):Zf [.p (eG p)] []=some ([.fresh false [.slice true iV] (H7 p)],[]):=by unfold Zf;simp only;have h:∃q,Small q/\bU q=true/\eG q=eG p:=⟨p,hp,a,rfl⟩;rw[dif_pos h,aiT h.choose_spec.2.2]
theorem run_seq{P:Program}{T:Tab}(ok:bJ P T)(e:rO P T gl X):GY P T gl (run T X):=λg fi a r c d h=>by obtain⟨n,b⟩:=uy h;exact(jl ok e n).2 g fi a r c d b
theorem ak2:aX tab.funcs 47=some Zg:=τ
theorem aiU:und tab 42=some (.slice 50):=τ
theorem apm:ay tab 50=(false,[.slice true iV]):=τ
theorem U1.vr{W:World}{B:Nat}{q:List Sg}(h:U1 W M B v q)(t:∀g,v.ownBlock=some g->M g):VR W M (.list true iV (eP q)) v:=by
 obtain⟨cs,f,r,p⟩:=h;have o:=SK q;by_cases u:q=[]
 .subst u;rcases f.2 with⟨rfl,_⟩ |⟨g,cap,k,rfl,_⟩<;>exact .iM _ _ _ _
 .rcases id f.2 with⟨_,y⟩ |⟨g,cap,k,rfl,C,z,d,_⟩
  .grind
  .have b:(eP q).length=q.length:=jM q;have key:=VR.list (w:=W) (M:=M) true iV (eP q) g 0 cap (λi j=>cs.getD (i*6+j) undef) (t g rfl) (by rw[b];exact d) (λi x j c a l=>?_) (λi x j c a l=>?_) λx a=>?_
   .grind
   all_goals try (have hi:i<q.length:=by rw[<-b];exact(qLa.1 a).1
                  have e:x=eS q[i]:=by rw[eP,List.getElem?_map,qLd hi]at a;cases a;rfl
                  subst e;have n:j<6:=(qLa.1 l).1;have m:i*6+j<q.length*6:=ω)
   .have hcell:=f.cellAt (i*6+j) m;grind
   .have A:=KD q i j n hi;grind
   .obtain⟨s,_,rfl⟩:=List.mem_map.1 a;rfl
theorem Jf{w:World}{a:Bool}{ks:List Kd}{xs:List PV}(h:VR w M (.list a ks xs) v):∃d c,v=.slice d xs.length c:=by
 generalize b:xs=ys at h;cases h with
 |list=>subst b;exact⟨_,_,rfl⟩
 |iM=>exact⟨_,_,rfl⟩
set_option maxHeartbeats 1000000 in
theorem adN(D:gl≠none)(hX:Mine X)(hC:dS Tryz.prog tab gl (run tab X))(hS:GY Tryz.prog tab gl (run tab X))(R:jd X):BQ Tryz.prog tab gl 47 Zf:=by
 intro S args bl rs l9 Am h;have:S=Zg:=by rw[ak2]at Am;exact(Option.some.inj Am).symm
 subst this;unfold Zf at h;split at h
 .next g=>
  split at h
  .next hp=>
   obtain⟨C,l,d⟩:=hp.choose_spec;generalize hp.choose=p at h C l d;subst d;cases h;refine⟨⟨_,rfl⟩,σ,λw M β ak Q a=>?_⟩;obtain⟨v,rfl,WS⟩:=Ap a;obtain⟨I,n,c0,K,G,m,F,rfl,A,hm⟩:∃I n c0 K G m F,v=.agg #[.slice I n c0,K,.slice G m F]/\n=p.names.length/\m=p.acts.length:=by
    cases WS with
    |agg _ vs A hl E=>
     obtain⟨I,c0,e0⟩:=Jf (E 0 _ rfl);obtain⟨G,F,e2⟩:=Jf (E 2 _ rfl);refine⟨I,_,c0,vs.getD 1 undef,G,_,F,?_,cu _,bH _⟩;rw[<-e0,<-e2];congr 1;apply Array.ext
     .exact A
     .intro i h1 h2;have A:vs.size=3:=A;have:i=0\/i=1\/i=2:=ω
      rcases this with rfl|rfl|rfl<;>simp[Array.getD,A]
   refine all_walk D hX hC hS R p C l w M a.dJ Q I n c0 K G m F A hm WS _ λMx vs ds w1 w' H s J Z k3 k4 k5=>?_;have N:vs.length=p.names.length:=by rw[<-H.len,oD]
   have f:=H.below;have hB:Below w.heap.size w w':=⟨k3.trans f.os,k4.trans f.tape,k5.trans f.output,by rw[Z];exact f.size,λb k=>(J b λhd=>by have:=(s b hd).2.1;omega).trans (f.block b k)⟩;let M':Nat->Prop:=λb=>M b\/Mx b\/∃(j:Nat) (v:Value),vs[j]?=some v/\v.ownBlock=some b;have t:∀(j:Nat) (v:Value) (g:Nat),vs[j]?=some v->v.ownBlock=some g->w.heap.size<=g/\g<w1.heap.size:=λj v g l d=>by obtain⟨q,_,hr⟩:=H.at_ l;exact hr.lt g d
   have Y:∀(j:Nat) (v:Value) (g:Nat),vs[j]?=some v->v.ownBlock=some g->g ∉ ds:=λj v g l d hd=>H.own_ne l d (s g hd).2.2 (λU e=>by cases e) rfl;have W:w.heap.size+1 ∉ ds:=λhd=>by have:=(s _ hd).2.1;omega
   have r:w'.heap[w.heap.size+1]?=some (.cells vs.toArray 50 (0,0)):=(J _ W).trans H.row;have V:¬M' (w.heap.size+1):=by
    rintro (h |h |⟨j,v,l,d⟩)
    .have:=a.dJ _ h;omega
    .exact H.mB.2 h
    .exact H.own_ne l d H.row (λU e=>by have:=(Obj.cells.inj e).2.1;exact absurd this δ) rfl
   refine⟨[.slice (some ⟨w.heap.size+1,0,none⟩) vs.length vs.length],[some (w.heap.size+1,0)],M',rfl,Jg rfl a hB (λe=>absurd e D) (λb k=>.inl k) (λb k=>?_) (λb k=>?_) ?_ λb o k=>?_⟩
   .rcases k with h |h |⟨j,v,l,d⟩
    .exact .inl h
    .exact(H.mlt b h).2
    .exact .inr (t j v b l d).1
   .rw[Z];rcases k with h |h |⟨j,v,l,d⟩
    .have:=a.dJ _ h;have:=f.size;omega
    .exact(H.mlt b h).1
    .exact(t j v b l d).2
   .have P:Zg.cfg.rets=[.fresh]:=rfl;have O:Zg.fn.resultTypes.toList=[42]:=τ
    rw[P,O];refine .cons _ _ _ _ _ _ _ _ _ ?_ (.nil _) (λb o o' _ h=>by cases h);have key:=rW.fresh (T:=tab) (w:=w') (M:=M') (β:=β) (h:=look (dK 0 [])) 42 50 (H7 p) (.slice (some ⟨w.heap.size+1,0,none⟩) vs.length vs.length) (some (w.heap.size+1,0)) aiU;rw[apm]at key;have z:(H7 p).length=vs.length:=by simp[H7,allL,N]
    have hopen:Open vs.toArray (0,0):=.inl rfl;refine key ?_ ?_
    .refine .arr false [.slice true iV] (H7 p) (w.heap.size+1) 0 vs.toArray 50 (0,0) rfl r (by simp[z]) hopen (λx u=>?_) λi x j c u E=>?_
     .simp only[H7,allL,List.map_map,List.mem_map]at u;obtain⟨j,_,rfl⟩:=u;simp[aA,kindOk,Kd.kL]
     .have hi:i<vs.length:=by rw[<-z];exact(qLa.1 u).1
      have L:x=.list true iV (eP (OZ p i)):=by simp only[H7,allL,List.map_map,List.getElem?_map]at u;rw[List.getElem?_range ω]at u;cases u;rfl
      subst L;have hj:j=0:=by have:=(qLa.1 E).1;simpa[PV.cells] using this
      subst hj;cases E;have hd:vs.toArray.getD (0+i*[Kd.slice true iV].length+0) undef=vs[i]:=by simp[Array.getD,hi]
      rw[hd];have hq:(mY p p.acts.length)[i]?=some (OZ p i):=by rw[abV,List.getElem?_map,List.getElem?_range ω];rfl
      have y:vs[i]?=some vs[i]:=qLd hi;refine((H.rows i _ _ y hq).mono (M':=M') (λb k=>⟨.inr (.inl k),J b λhd=>(s b hd).1 k⟩) λg d=>J g (Y i _ g y d)).vr λg d=>.inr (.inr ⟨i,_,y,d⟩)
    .have B:=AR.slice (w:=w') (M:=M') (β:=λ_=>some (w.heap.size+1,0)) (h:=λ_=>some (.arr false [Kd.slice true iV] (H7 p))) 0 0 vs.length false [.slice true iV] (H7 p) (w.heap.size+1) 0 vs.length rfl ω rfl (qNr _) (.mk r σ hopen);rw[z];simpa using B
   .simp only[List.mem_singleton,qOa,Prod.mk.injEq]at k;obtain⟨rfl,rfl⟩:=k;exact⟨V,(qAa.1 r).1,ω⟩
  .cases h
 .cases h
end
end Go.Skm.Prg
