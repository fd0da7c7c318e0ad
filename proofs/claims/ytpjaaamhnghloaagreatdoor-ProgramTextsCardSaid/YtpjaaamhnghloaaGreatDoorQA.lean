import Derived.Test.YtpjaaamhnghloaaGreatDoorAll4
import Derived.Test.YtpjaaamhnghloaaGreatDoorQ2
import Derived.Test.YtpjaaamhnghloaaGreatDoorAllX
set_option linter.all false
namespace Go.Skm.Prg
open Go Go.Skm Go.Proofs Go.RowKit Go.Shelf
variable {W:World}{B Pb:Nat}{D M:Nat->Prop}{q:Pg}
theorem Vu{r:Rw}{a:Bool}{ks:List Kd}{xs:List PV}(h:r.own W B)(o:∀g,r.v.ownBlock=some g->M g)(t:xs.length=r.n)(m:∀(i:Nat) x (j:Nat) c,xs[i]?=some x->x.cells[j]?=some c->∃u,r.cs[i*ks.length+j]?=some u/\VR W M c u)(l:∀x∈xs,aA a ks x=true):VR W M (.list a ks xs) r.v:=by
 rcases id h.2 with⟨e,y⟩ |⟨g,cap,p,e,_,_,k,_⟩
 .have:xs=[]:=List.length_eq_zero_iff.1 ω;subst this;rw[e];exact .iM _ _ _ _
 .rw[e];have key:=VR.list (w:=W) (M:=M) a ks xs g 0 cap (λi j=>r.cs.getD (i*ks.length+j) undef) (o g (by rw[e];rfl)) ω (λi x j c d b=>?_) (λi x j c d b=>?_) l
  .grind
  all_goals obtain⟨u,f,s⟩:=m i x j c d b
  .rw[qNz,qLb,f];exact PS h (by rw[e];rfl) f
  grind
theorem flat_get{α β:Type}(f:α->List β)(z:Nat)(b:∀a,(f a).length=z):∀(l:List α) (i j:Nat) (a:α),l[i]?=some a->j<z->(l.flatMap f)[i*z+j]?=(f a)[j]?
 |[],_,_,_,h,_=>by simp at h
 |x::l,0,j,a,h,hj=>θ
 |x::l,i+1,j,a,h,hj=>by rw[List.flatMap_cons,List.getElem?_append_right (by rw[b,Nat.succ_mul];omega),b,show(i+1)*z+j-z=i*z+j by rw[Nat.succ_mul];omega];exact flat_get f z b l i j a (by simpa using h) hj
theorem St.vr(h:St W B Pb D q)(y:∀b,D b->M b):∃n o r,W.heap[Pb]?=some (.cells #[n,o,r] 26 (0,0))/\VR W M (eG q) (.agg #[n,o,r])/\(n.oneCell'=true/\o.oneCell'=true/\r.oneCell'=true):=by
 obtain⟨n,o,r,l,t,E,hd⟩:=h.own;have z:=t.rows.own (Jb n q.names) (by simp[yP]);have A:=t.rows.own (JC o q.homes) (by simp[yP]);have C:=t.rows.own (wo r l) (by simp[yP]);have I:∀p∈l,(F6 p).own W B:=λp hp=>t.rows.own _ (by simp only[yP,List.mem_cons,List.mem_map];exact .inr (.inr (.inr ⟨p,hp,rfl⟩)));have H:VR W M (.list false [.str] (eN q.names)) n:=Vu z (λg e=>y g (hd g (.inl e))) (by simp[eN,Jb]) (λi x j c f d=>by
  simp only[eN,List.getElem?_map,Option.map_eq_some_iff]at f;obtain⟨g,L,rfl⟩:=f;cases j with
  |zero=>simp[PV.cells]at d;subst d;exact⟨.string (ba g),by simp[Jb,nmC,L],.str _⟩
  |succ j=>simp[PV.cells]at d) (λx f=>by
  obtain⟨g,_,rfl⟩:=List.mem_map.1 f;rfl)
 have G:VR W M (.list true dW (dw q.homes)) o:=Vu A (λg e=>y g (hd g (.inr (.inl e)))) (by simp[JC]) (λi x j c f d=>by
  simp only[dw,List.getElem?_map,Option.map_eq_some_iff]at f;obtain⟨v,J,rfl⟩:=f;have u:j<3:=(qLa.1 d).1;have e:=flat_get WQ 3 (λ_=>rfl) q.homes i j v J u;have k:j=0\/j=1\/j=2:=ω
  rcases k with rfl|rfl|rfl<;>(cases d;exact⟨_,e,.int _ _⟩)) (λx f=>by
  obtain⟨g,_,rfl⟩:=List.mem_map.1 f;rfl)
 have F:VR W M (.list true gY (lH q.acts)) r:=Vu C (λg e=>y g (hd g (.inr (.inr (.inl e))))) (by simp[wo,lH,<-E]) (λi x j c f d=>by
  rw[<-E]at f;simp only[lH,List.getElem?_map,Option.map_eq_some_iff]at f;obtain⟨a,⟨p,hp,rfl⟩,rfl⟩:=f;have u:j<3:=(qLa.1 d).1;have e:=flat_get (λp:Ac × Value=>[Value.string (ba p.1.name),.int .i64 p.1.len,p.2]) 3 (λ_=>rfl) l i j p hp u;have s:p∈l:=qLe hp;have k:j=0\/j=1\/j=2:=ω
  rcases k with rfl|rfl|rfl
  .cases d;exact⟨_,e,.str _⟩
  .cases d;exact⟨_,e,.int _ _⟩
  .cases d;refine⟨_,e,Vu (I p s) (λg e=>y g (hd g (.inr (.inr (.inr ⟨p,s,e⟩))))) (by simp[F6,D8]) (λi x j c f d=>?_) (λx f=>?_)⟩
   .simp only[D8,List.getElem?_map,Option.map_eq_some_iff]at f;obtain⟨m,K,rfl⟩:=f;have u:j<6:=(qLa.1 d).1;have e:=flat_get mvC 6 (λ_=>rfl) p.1.dG i j m K u;have k:j=0\/j=1\/j=2\/j=3\/j=4\/j=5:=ω
    rcases k with rfl|rfl|rfl|rfl|rfl|rfl<;>(cases d;exact⟨_,e,.int _ _⟩)
   .obtain⟨g,_,rfl⟩:=List.mem_map.1 f;rfl) (λx f=>by
  obtain⟨g,_,rfl⟩:=List.mem_map.1 f;rfl)
 refine⟨n,o,r,t.box,.agg _ _ rfl (λc d=>?_) λj c d=>?_,?_,?_,?_⟩
 .simp only[List.mem_cons,List.mem_nil_iff,or_false]at d;rcases d with rfl|rfl|rfl<;>rfl
 .match j,d with
  |0,d=>cases d;exact H
  |1,d=>cases d;exact G
  |2,d=>cases d;exact F
  |j+3,d=>simp at d
 .obtain⟨_,_,e⟩:=FZ z;change n=_ at e;rw[e];rfl
 .obtain⟨_,_,e⟩:=FZ A;change o=_ at e;rw[e];rfl
 .obtain⟨_,_,e⟩:=FZ C;change r=_ at e;rw[e];rfl
theorem St.grow{W':World}{D':Nat->Prop}(h:St W B Pb D q)(a:Below W.heap.size W W')(c:∀b,B<=b->b<W.heap.size->b≠Pb->D b->D' b):St W' B Pb D' q:=(h.mono c).below a
section
variable {gl:Option (List (Nat × Obj))}{X:Ext} (hX:Mine X) (hC:dS Tryz.prog tab gl (run tab X)) {w:World} (hgl:∀p∈gl.getD [],p.1<w.heap.size/\w.heap[p.1]?=some p.2)
include hgl in
theorem Bq(a:Below w.heap.size w W):∀p∈gl.getD [],p.1<w.heap.size/\W.heap[p.1]?=some p.2:=λp hp=>⟨(hgl p hp).1,(a.block _ (hgl p hp).1).trans (hgl p hp).2⟩
include hX hC hgl
theorem PY(c:UInt8)(l:List UInt8)(k:l.length<=1000000000)(h:Below w.heap.size w W) :
    Calls Tryz.prog 41 #[.string (ba l),.int .u8 ((c.toNat:Nat):Int)] W λe W'=>∃v b o,e=.returned v/\Lies W' (yQ (bG c l)) v b o/\(b<w.heap.size\/W.heap.size<=b)/\Below W.heap.size W W':=by
  refine(PW hC (f:=41) (fi:=ajo) τ (t:=22) τ rfl (xs:=[.str (ba l),.int .u8 ((c.toNat:Nat):Int)]) (M:=λb=>b<w.heap.size) (c41 X hX c l k) (Bq hgl h) (λb g=>Nat.lt_of_lt_of_le g h.size) rfl λi x hi=>?_).mono ?_
  .match i,hi with
   |0,hi=>cases hi;exact .str _
   |1,hi=>cases hi;exact .int _ _
   |i+2,hi=>simp at hi
  .rintro e W' ⟨v,M',rfl,j,-,a,d,g⟩;obtain⟨b,o,m,n⟩:=Ub j a (mO c l);grind
theorem Ue(g:List (List UInt8))(K:g.length<=1000000)(G:∀s∈g,s.length<=1000000)(E:Below w.heap.size w W){b:Nat}(y:b<W.heap.size){k:Nat}{F:Value}(z:VR W (λx=>x=b) (.list false [.str] (eN (g.drop k))) F) :
    Calls Tryz.prog 42 #[F] W λe W'=>∃c a m,e=.returned (.tuple #[.slice a ((qp (g.drop k)).getD []).length m,.bool (qp (g.drop k)).isSome])/\c=Value.slice a ((qp (g.drop k)).getD []).length m /\
     ((qp (g.drop k)).getD []≠[]->∃l A,Lies W' (PX ((qp (g.drop k)).getD [])) c l A/\(l<w.heap.size\/l=b\/W.heap.size<=l))/\Below W.heap.size W W':=by
  have v:(g.drop k).length<=1000000:=by rw[List.length_drop];omega
  refine(Ua hC (f:=42) (fi:=ajp) τ (t:=59) (u:=4) τ rfl (xs:=[.list false [.str] (eN (g.drop k))]) (M:=λx=>x<w.heap.size\/x=b) (c42 X hX (g.drop k) v λs h=>G s (List.mem_of_mem_drop h)) (λp hp=>⟨.inl (hgl p hp).1,(Bq hgl E p hp).2⟩) (λx j=>?_) rfl λi x hi=>?_).mono ?_
  .rcases j with j |rfl
   .exact Nat.lt_of_lt_of_le j E.size
   .exact y
  .match i,hi with
   |0,hi=>cases hi;exact z.mono λx j=>⟨.inr j,rfl⟩
   |i+1,hi=>simp at hi
  .rintro e W' ⟨c,d,M',rfl,n,hd,-,r,C,I⟩;cases hd;obtain⟨a,m,rfl⟩:=Jf n;have H:(encI ((qp (g.drop k)).getD [])).length=((qp (g.drop k)).getD []).length:=σ
   rw[H]at n ⊢;refine⟨_,a,m,rfl,rfl,λo=>?_,I⟩;obtain⟨l,A,L,J⟩:=Uc n r o;grind
theorem F8{f:Nat}{fi:FI}(o:aX tab.funcs f=some fi){t:TypeId}(l:fi.fn.resultTypes.toList=[t])(m:fi.cfg.rets=[]){x:PV}{v:Value}(y:∀W M c,VR W M x c->c=v)(h:run tab X f [.p (eG q)] []=some ([.p x],[]))(j:Below w.heap.size w W)(n:St W B Pb D q) :
    ∃a d g,W.heap[Pb]?=some (.cells #[a,d,g] 26 (0,0))/\VR W (λb=>b<W.heap.size) (eG q) (.agg #[a,d,g])/\(a.oneCell'=true/\d.oneCell'=true/\g.oneCell'=true)/\Calls Tryz.prog f #[.agg #[a,d,g]] W λe W'=>e=.returned v/\Below W.heap.size W W':=by
  have s:St W B Pb (λb=>b<W.heap.size) q:=n.mono λb _ h _ _=>h;obtain⟨a,d,g,u,k,e3⟩:=s.vr (M:=λb=>b<W.heap.size) λ_ h=>h;refine⟨a,d,g,u,k,e3,(XZ hC o l m (xs:=[eG q]) (M:=λb=>b<W.heap.size) h (λp hp=>⟨Nat.lt_of_lt_of_le (hgl p hp).1 j.size,(Bq hgl j p hp).2⟩) (λb r=>r) rfl λi x hi=>?_).mono ?_⟩
  .match i,hi with
   |0,hi=>cases hi;exact k
   |i+1,hi=>simp at hi
  .grind
end
end Go.Skm.Prg
