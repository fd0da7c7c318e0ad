import Derived.Test.YtpjaaamhnghloaaGreatDoorQ7
import Derived.Test.YtpjaaamhnghloaaGreatDoorPL1
import Derived.Test.YtpjaaamhnghloaaGreatDoorSkmH
import Derived.Test.YtpjaaamhnghloaaGreatDoorAll3
set_option linter.all false
namespace Go.Skm.Prg
open Go Go.Skm Go.Proofs Go.RowKit Go.Shelf
section
variable {b f o:Nat}{fi:FI}{xs zs:List PV}{W:World}{M:Nat->Prop}{args:Array Value}{t:TypeId}{a:Bool}{ks:List Kd}{c:Value}{vs:List Value}{l:List (List UInt8)}
section
variable {P:Program}{T:Tab}{gl:Option (List (Nat × Obj))}{C:aB}
theorem Ld(s:dS P T gl C)(q:aX T.funcs f=some fi){k:List AV}(h:C f (xs.map .p) []=some (k,[]))
    (g:∀p∈gl.getD [],M p.1/\W.heap[p.1]?=some p.2)(r:∀b,M b->b<W.heap.size)(n:args.size=xs.length)(m:∀(i:Nat) x,xs[i]?=some x->VR W M x (args.getD i undef)) :
    Calls P f args W λe W'=>∃cs ps M',e=.returned (qx cs)/\qM T W' M' (λ_=>none) (look (dK 0 [])) fi.cfg.rets fi.fn.resultTypes.toList k cs ps/\(∀b o,some (b,o)∈ps->¬M' b/\b<W'.heap.size/\W.heap.size<=b)/\(∀b,M b->M' b)/\(∀b,M' b->b<W'.heap.size)/\(∀b,M' b->M b\/W.heap.size<=b)/\Below W.heap.size W W':=by
  refine((s.plain f fi (xs.map .p) [] _ [] q σ h).2 W M (λ_=>none) args g ⟨by simp[n],λi v hi=>?_,λi b0 hi=>by simp at hi,λi b o hi=>by simp at hi,λi j b o u hi=>by simp at hi,r⟩).mono ?_
  .simp only[List.getElem?_map,Option.map_eq_some_iff]at hi;obtain⟨x,d,rfl⟩:=hi;exact .p _ _ (m i x d)
  .rintro e W' ⟨cs,ps,M',rfl,post⟩;exact⟨cs,ps,M',rfl,post.res,post.own,post.dJ,post.mlt,post.jH,post.os,post.tape,post.output,post.size,λx d=>post.keep x d λi o hi=>by simp at hi⟩
theorem XZ(w:dS P T gl C)(s:aX T.funcs f=some fi)(m:fi.fn.resultTypes.toList=[t])(q:fi.cfg.rets=[]){x:PV}(h:C f (xs.map .p) []=some ([.p x],[]))
    (j:∀p∈gl.getD [],M p.1/\W.heap[p.1]?=some p.2)(v:∀b,M b->b<W.heap.size)(r:args.size=xs.length)(g:∀(i:Nat) x,xs[i]?=some x->VR W M x (args.getD i undef)) :
    Calls P f args W λe W'=>∃c M',e=.returned c/\VR W' M' x c/\(∀b,M b->M' b)/\Below W.heap.size W W':=by
  refine(Ld w s h j v r g).mono ?_;rintro e W' ⟨cs,ps,M',rfl,d,_,n,_,_,u⟩;rw[q,m]at d;cases d with
  |cons _ _ _ _ _ c A p k z y _=>
   cases y;cases z with
   |deep _ x _ _ g=>exact⟨c,M',rfl,g,n,u⟩
theorem X0{w:World}{p:Option (Nat × Nat)}(z:BR w M (λ_=>p) (λ_=>some (.arr a ks xs)) 0 (.arr a ks xs))
    (v:AR w M (λ_=>p) (λ_=>some (.arr a ks xs)) (.slice 0 ks.length 0 xs.length) c):VR w (λb=>M b\/∃o,p=some (b,o)) (.list a ks xs) c:=by
  generalize N:ks.length=W at v;generalize D:xs.length=n at v;have empty:∀base cap,n=0->VR w (λb=>M b\/∃o,p=some (b,o)) (.list a ks xs) (.slice base n cap):=λbase cap F=>by have:xs=[]:=List.length_eq_zero_iff.1 ω;subst F this;exact .iM _ _ _ _
  cases v with
  |slice _ _ _ G s r b o cap d y h g J=>
   cases d;subst D;rw[Nat.zero_mul,Nat.add_zero];generalize I:xs=ys at *;cases z with
   |gJ=>exact .iM _ _ _ _
   |arr _ _ _ b' H Cs e fr k A L K d E=>
    rw[h]at k;cases k;refine .list a ks ys b o cap (λi j=>Cs.getD (o+i*ks.length+j) undef) (.inr ⟨o,h⟩) g (λi x j c m q=>?_) (λi x j c m q=>(E i x j c m q).mono λb z=>⟨.inl z,rfl⟩) d;have hi:i<ys.length:=(qLa.1 m).1;have u:ys[i]=x:=(qLa.1 m).2;have q:j<ks.length:=by rw[<-bV (d x (u▸List.getElem_mem hi))];exact(qLa.1 q).1
    have B:o+i*ks.length+j<Cs.size:=by have:(i+1)*ks.length<=ys.length*ks.length:=Nat.mul_le_mul_right _ hi;grind
    simp[World.cell?,A,qAb,B]
  |sliceE _ _ G s r base d y=>exact empty _ _ rfl
theorem PW(E:dS P T gl C)(B:aX T.funcs f=some fi)(w:fi.fn.resultTypes.toList=[t])(y:fi.cfg.rets=[.fresh])(h:C f (xs.map .p) []=some ([.fresh a ks zs],[]))
    (k:∀p∈gl.getD [],M p.1/\W.heap[p.1]?=some p.2)(D:∀b,M b->b<W.heap.size)(z:args.size=xs.length)(v:∀(i:Nat) x,xs[i]?=some x->VR W M x (args.getD i undef)) :
    Calls P f args W λe W'=>∃(c:Value) (M':Nat->Prop),e=.returned c/\VR W' M' (.list a ks zs) c/\(∀b,M b->M' b)/\(∀b,M' b->b<W'.heap.size)/\(∀b,M' b->M b\/W.heap.size<=b)/\Below W.heap.size W W':=by
  refine(Ld E B h k D z v).mono ?_;rintro e W' ⟨cs,ps,M',rfl,d,q,g,A,r,n⟩;rw[y,w]at d;cases d with
  |cons _ _ _ _ _ c H p u G F _=>
   cases F;cases G with
   |fresh _ e s _ _ I m j=>refine⟨c,λb=>M' b\/∃o,p=some (b,o),rfl,X0 m j,λb n=>.inl (g b n),?_,?_,n⟩;all_goals grind
theorem Ua(J:dS P T gl C)(H:aX T.funcs f=some fi){u:TypeId}(D:fi.fn.resultTypes.toList=[t,u])(E:fi.cfg.rets=[.fresh,.deep]){y:PV}(h:C f (xs.map .p) []=some ([.fresh a ks zs,.p y],[]))
    (q:∀p∈gl.getD [],M p.1/\W.heap[p.1]?=some p.2)(I:∀b,M b->b<W.heap.size)(F:args.size=xs.length)(B:∀(i:Nat) x,xs[i]?=some x->VR W M x (args.getD i undef)) :
    Calls P f args W λe W'=>∃(c d:Value) (M':Nat->Prop),e=.returned (.tuple #[c,d])/\VR W' M' (.list a ks zs) c/\VR W' M' y d/\(∀b,M b->M' b)/\(∀b,M' b->b<W'.heap.size)/\(∀b,M' b->M b\/W.heap.size<=b)/\Below W.heap.size W W':=by
  refine(Ld J H h q I F B).mono ?_;rintro e W' ⟨cs,ps,M',rfl,g,s,j,G,v,k⟩;rw[E,D]at g;cases g with
  |cons _ _ _ _ _ c Q p A N L _=>
   cases L with
   |cons _ _ _ _ _ d O R z K h4 _=>
    cases h4;cases K with
    |deep _ y _ _ m=>
     cases N with
     |fresh _ e w _ _ S r n=>refine⟨c,d,λb=>M' b\/∃o,p=some (b,o),rfl,X0 r n,m.mono λb k=>⟨.inl k,rfl⟩,λb k=>.inl (j b k),?_,?_,k⟩;all_goals grind
end
structure Lies (W:World) (vs:List Value) (c:Value) (b o:Nat):Prop where
 val:∃cap,c=.slice (some ⟨b,o,none⟩) vs.length cap/\vs.length<=cap
 lt:b<W.heap.size
 at_:∀(i:Nat) v,vs[i]?=some v->W.cell? ⟨b,o+i,none⟩=some v
def yQ(l:List (List UInt8)):List Value:=l.map λg=>.string (ba g)
def PX(l:List Int):List Value:=l.map λn=>.int .i64 n
theorem abk{k:Kd}(h:VR W M (.list false [k] xs) c)(p:∀b,M b->b<W.heap.size)(q:xs≠[])(j:vs.length=xs.length)
    (m:∀(i:Nat) x u,xs[i]?=some x->x.cells=[x]/\(VR W M x u->vs[i]?=some u)):∃b o,M b/\Lies W vs c b o:=by
  cases h with
  |iM=>exact absurd rfl q
  |list _ _ _ b o cap f e d s z r=>
   refine⟨b,o,e,⟨cap,by rw[j],by rw[j];exact d⟩,p b e,λi v n=>?_⟩;have hi:i<xs.length:=by rw[<-j];exact(qLa.1 n).1
   have g:=qLd hi;obtain⟨y,w⟩:=m i xs[i] (f i 0) g;grind
theorem Ub(h:VR W M (.list false [.str] (eN l)) c)(j:∀b,M b->b<W.heap.size)(k:l≠[]):∃b o,M b/\Lies W (yQ l) c b o:=
 abk h j (by simpa[eN] using k) (by simp[yQ]) λi x u d=>by simp only[eN,List.getElem?_map,Option.map_eq_some_iff]at d;obtain⟨g,e,rfl⟩:=d;refine⟨rfl,λh=>?_⟩;cases h;simp[yQ,e]
theorem Uc{l:List Int}(h:VR W M (.list false [.int .i64] (encI l)) c)(j:∀b,M b->b<W.heap.size)(k:l≠[]):∃b o,M b/\Lies W (PX l) c b o:=
 abk h j (by simpa[encI] using k) (by simp[PX]) λi x u d=>by simp only[encI,List.getElem?_map,Option.map_eq_some_iff]at d;obtain⟨g,e,rfl⟩:=d;refine⟨rfl,λh=>?_⟩;cases h;simp[PX,e]
theorem Lies.keep{W':World}(h:Lies W vs c b o)(g:W'.heap[b]?=W.heap[b]?)(e:W.heap.size<=W'.heap.size):Lies W' vs c b o:=
 ⟨h.val,Nat.lt_of_lt_of_le h.lt e,λi v d=>(World.cell?_of_block (w:=W) g).trans (h.at_ i v d)⟩
theorem Lies.strs(h:Lies W (yQ l) c b o){k:Nat}(w:k<=l.length)(cap:Nat)(v:l.length-k<=cap):VR W (λx=>x=b) (.list false [.str] (eN (l.drop k))) (.slice (some ⟨b,o+k,none⟩) (l.length-k) cap):=by
 have e:(eN (l.drop k)).length=l.length-k:=by simp[eN]
 rw[<-e];have q:∀(i:Nat) x (j:Nat) d,(eN (l.drop k))[i]?=some x->x.cells[j]?=some d->∃g,j=0/\d=.str (ba g)/\(yQ l)[k+i]?=some (.string (ba g))/\(yQ l).getD (k+i) undef=.string (ba g):=by
   intro i x j d m s;simp only [eN,List.getElem?_map,Option.map_eq_some_iff,List.getElem?_drop]at m;obtain ⟨g,u,rfl⟩:=m;have p:(yQ l)[k+i]?=some (.string (ba g)):=by simp[yQ,u]
   have r:j=0/\d=.str (ba g):=by grind[PV.cells]
   exact⟨g,r.1,r.2,p,by rw[qLb,p];rfl⟩
 refine .list false [.str] (eN (l.drop k)) b (o+k) cap (λi _=>(yQ l).getD (k+i) undef) rfl (by rw[e];exact v) (λi x j c m s=>?_) (λi x j c m s=>?_) λx m=>?_
 .obtain ⟨g,rfl,rfl,p,n⟩:=q i x j c m s;rw[n];have y:=h.at_ (k+i) _ p;simpa[Nat.add_assoc] using y
 .obtain ⟨g,rfl,rfl,p,n⟩:=q i x j c m s;rw[n];exact .str _
 .simp only [eN,List.mem_map]at m;obtain ⟨g,_,rfl⟩:=m;rfl
end
section
variable {S b k:Nat}{r:Option Nat}{v v' va vh vn:Value}{l:List (Ac × Value)}{es:List Ac}{x:Ac}{y:Mv}
structure St (W:World) (B Pb:Nat) (D:Nat->Prop) (q:Pg):Prop where
 own:∃vn vh va l,Own W B Pb vn vh va q.names q.homes l/\l.map (·.1)=q.acts/\∀b,rwB vn vh va l b->D b
structure Kp (W W':World) (D:Nat->Prop) (Pb:Nat):Prop where
 os:W'.os=W.os
 tape:W'.tape=W.tape
 output:W'.output=W.output
 size:W.heap.size<=W'.heap.size
 block:∀b,b<W.heap.size->b≠Pb->¬D b->W'.heap[b]?=W.heap[b]?
section
variable {A W W' w0 w:World}{B Pb:Nat}{D D':Nat->Prop}{q:Pg}
theorem Kp.trans(h:Kp A W D Pb)(k:Kp W W' D' Pb)(f:∀b,D' b->D b\/A.heap.size<=b):Kp A W' D Pb:=
 ⟨k.os.trans h.os,k.tape.trans h.tape,k.output.trans h.output,Nat.le_trans h.size k.size,λb a d c=>(k.block b (Nat.lt_of_lt_of_le a h.size) d λe=>(f b e).elim c λe=>ω).trans (h.block b a d c)⟩
theorem ae2(h:Below W.heap.size W W'):Kp W W' D Pb:=⟨h.os,h.tape,h.output,h.size,λb a _ _=>h.block b a⟩
theorem Kp.below(h:Kp W W' D Pb)(d:S<=W.heap.size)(f:S<=Pb)(a:∀b,D b->S<=b):Below S W W':=
 ⟨h.os,h.tape,h.output,h.size,λb c=>h.block b ω ω λe=>by have:=a b e;omega⟩
theorem Kp.drew(h:Kp {A with drawn:=A.drawn+1} W D Pb):Kp A W D Pb:=⟨h.os,h.tape,h.output,h.size,h.block⟩
theorem St.lt(h:St W B Pb D q):Pb<W.heap.size/\B<=Pb:=by obtain⟨vn,vh,va,l,a,c,hd⟩:=h.own;exact⟨a.lt,a.base⟩
theorem St.grows(h:St W B Pb D q)(d:∀b,b<W.heap.size->w.heap[b]?=W.heap[b]?):St w B Pb D q:=by obtain⟨vn,vh,va,l,a,c,hd⟩:=h.own;exact⟨vn,vh,va,l,a.grows d,c,hd⟩
theorem St.below(h:St W B Pb D q)(a:Below W.heap.size W w):St w B Pb D q:=h.grows λb c=>a.block b c
theorem St.mono(h:St W B Pb D q)(e:∀b,B<=b->b<W.heap.size->b≠Pb->D b->D' b):St W B Pb D' q:=by obtain⟨vn,vh,va,l,a,c,hd⟩:=h.own;refine⟨vn,vh,va,l,a,c,λb d=>?_⟩;obtain⟨j,i,f⟩:=a.blk d;grind
theorem Le(a:w0.grownBy w r)(d:∀b,r=some b->D b){g:Nat}(h:g=Pb\/D g):Kp w0 (w.setCell ⟨g,k,none⟩ v) D Pb:=
 ⟨a.os,a.tape,a.output,Nat.le_trans a.size (jw w g k v).size,λb c i f=>((jw w g k v).block b (Nat.lt_of_lt_of_le c a.size) λe=>θ).trans (a.block b c λe=>f (d b e.symm))⟩
theorem ag1{s:Option Nat}(a:oW w0 w r s)(o:∀b,r=some b->D b)(i:∀b,s=some b->D b){j:Nat}{u:Value}:Kp w0 ((w.setCell ⟨Pb,k,none⟩ v).setCell ⟨Pb,j,none⟩ u) D Pb:=by have c:=jw w Pb k v;have h:=jw (w.setCell ⟨Pb,k,none⟩ v) Pb j u;refine⟨a.os,a.tape,a.output,Nat.le_trans a.size (Nat.le_trans c.size h.size),λb d p f=>?_⟩;have n:some b≠some Pb:=λe=>p (Option.some.inj e);have b1:=Nat.lt_of_lt_of_le d a.size;exact((h.block b (Nat.lt_of_lt_of_le b1 c.size) n).trans (c.block b b1 n)).trans (a.block b d (λe=>f (o b e.symm)) λe=>f (i b e.symm))
theorem St.cells(h:St W B Pb D q):∃a0 c0 e c1 d c,W.heap[Pb]?=some (.cells #[.slice a0 q.names.length c0,.slice e q.homes.length c1,.slice d q.acts.length c] 26 (0,0)):=by obtain⟨vn,vh,va,l,a,n,hd⟩:=h.own;obtain⟨a0,c0,j⟩:=FZ (a.rows.own (Jb vn q.names) (by simp[yP]));obtain⟨e,c1,i⟩:=FZ (a.rows.own (JC vh q.homes) (by simp[yP]));obtain⟨d,c,f⟩:=FZ (a.rows.own (wo va l) (by simp[yP]));refine⟨a0,c0,e,c1,d,c,?_⟩;have o:=a.box;change vn=.slice a0 q.names.length c0 at j;change vh=.slice e q.homes.length c1 at i;change va=.slice d l.length c at f;grind
end
theorem Ud{a:Ac}(h:l.map (·.1)=es++[a]):∃d v,l=d++[(a,v)]/\d.map (·.1)=es:=by
 have c:l≠[]:=λe=>by rw[e]at h;simp at h
 refine⟨l.dropLast,(l.getLast c).2,?_,?_⟩
 .have f:=congrArg List.getLast? h;rw[List.getLast?_map,List.getLast?_eq_some_getLast c,List.getLast?_concat,Option.map_some,qOa]at f;refine(List.dropLast_concat_getLast c).symm.trans ?_;rw[<-f]
 grind
section
variable {m:Nat}{Q:Exit->Act->World->Prop}{w0:World}{a0:Act}{B Pb:Nat}{D:Nat->Prop}{q:Pg}{bw ow wn wc bi oi im ic:Nat}{g:List UInt8}
theorem ag2(z:a0.tmps.size=165)(f:a0.tmps.getD 4 undef=.pointer (some ⟨Pb,0,none⟩))(d:a0.tmps.getD 7 undef=.slice (some ⟨bw,ow,none⟩) wn wc)(i:1<wn)(s:w0.cell? ⟨bw,ow+1,none⟩=some (.string (ba g)))(c:¬D bw)
    (h:St w0 B Pb D q)(F:B<=w0.heap.size)(o:q.names.length+1<=1000000)
    (post:∀(a:Act) (W:World),a.tmps.size=a0.tmps.size->a.defers=a0.defers->(∀t,t<56\/63<t->a.tmps.getD t undef=a0.tmps.getD t undef)->St W B Pb (λb=>D b\/w0.heap.size<=b) ⟨q.names++[g],q.homes,q.acts⟩->Kp w0 W D Pb->Q .normal a W) :
    (Code.region 18 xW true).wpIn (FW none) m Tryz.prog Q a0 w0:=by
  obtain⟨vn,vh,va,l,n,p,hd⟩:=h.own;refine aeS z f d i s (λe=>c (hd _ (.inl e))) n F o λa w v' I H G C E j=>post a _ I H G ⟨v',vh,va,l,C,p,λb u=>?_⟩ (Le E (λb e=>hd b (.inl e)) (.inl rfl));rcases u with e |e |e |e
  .exact(j b e).imp (λe=>hd b (.inl e)) id
  .exact .inl (hd b (.inr (.inl e)))
  .exact .inl (hd b (.inr (.inr (.inl e))))
  .exact .inl (hd b (.inr (.inr (.inr e))))
theorem ag3{x:V3}(E:a0.tmps.size=165)(n:a0.tmps.getD 4 undef=.pointer (some ⟨Pb,0,none⟩))(j:a0.tmps.getD 9 undef=.slice (some ⟨bi,oi,none⟩) im ic)(c:2<im)(J:w0.cell? ⟨bi,oi,none⟩=some (.int .i64 x.x))(i:w0.cell? ⟨bi,oi+1,none⟩=some (.int .i64 x.y))(f:w0.cell? ⟨bi,oi+2,none⟩=some (.int .i64 x.z))(d:¬D bi)
    (h:St w0 B Pb D q)(H:B<=w0.heap.size)(s:q.homes.length+1<=1000000)
    (post:∀(a:Act) (W:World),a.tmps.size=a0.tmps.size->a.defers=a0.defers->(∀t,t<64\/78<t->a.tmps.getD t undef=a0.tmps.getD t undef)->St W B Pb (λb=>D b\/w0.heap.size<=b) ⟨q.names,q.homes++[x],q.acts⟩->Kp w0 W D Pb->Q .normal a W) :
    (Code.region 19 xX true).wpIn (FW none) m Tryz.prog Q a0 w0:=by
  obtain⟨vn,vh,va,l,p,u,hd⟩:=h.own;refine aeT E n j c J i f (λe=>d (hd _ (.inr (.inl e)))) p H s λa w v' i f I F G o=>post a _ i f I ⟨vn,v',va,l,F,u,λb C=>?_⟩ (Le G (λb e=>hd b (.inr (.inl e))) (.inl rfl));rcases C with e |e |e |e
  .exact .inl (hd b (.inl e))
  .exact(o b e).imp (λe=>hd b (.inr (.inl e))) id
  .exact .inl (hd b (.inr (.inr (.inl e))))
  .exact .inl (hd b (.inr (.inr (.inr e))))
theorem abl(hd:∀b,rwB vn vh va l b->D b)(a:∀g,v'.ownBlock=some g->va.ownBlock=some g\/S<=g)(c:rwB vn vh v' (l++[(x,.slice none 0 0)]) b):D b\/S<=b:=by
 rcases c with e |e |e |⟨p,hp,e⟩
 .exact .inl (hd b (.inl e))
 .exact .inl (hd b (.inr (.inl e)))
 .exact(a b e).imp (λe=>hd b (.inr (.inr (.inl e)))) id
 .rw[List.mem_append,List.mem_singleton]at hp;rcases hp with hp |rfl
  .exact .inl (hd b (.inr (.inr (.inr ⟨p,hp,e⟩))))
  .cases e
theorem ag4{k:Int}(F:a0.tmps.size=165)(o:a0.tmps.getD 4 undef=.pointer (some ⟨Pb,0,none⟩))(n:a0.tmps.getD 7 undef=.slice (some ⟨bw,ow,none⟩) wn wc)(p:1<wn)(C:w0.cell? ⟨bw,ow+1,none⟩=some (.string (ba g)))(f:¬D bw)(j:a0.tmps.getD 9 undef=.slice (some ⟨bi,oi,none⟩) im ic)(c:0<im)(M:w0.cell? ⟨bi,oi,none⟩=some (.int .i64 k))(d:¬D bi)
    (h:St w0 B Pb D q)(I:B<=w0.heap.size)(N:q.acts.length+1<=1000000)
    (post:∀(a:Act) (W:World),a.tmps.size=a0.tmps.size->a.defers=a0.defers->(∀t,t<89\/100<t->a.tmps.getD t undef=a0.tmps.getD t undef)->St W B Pb (λb=>D b\/w0.heap.size<=b) ⟨q.names,q.homes,q.acts++[⟨g,k,[]⟩]⟩->Kp w0 W D Pb->Q .normal a W) :
    (Code.region 21 xY true).wpIn (FW none) m Tryz.prog Q a0 w0:=by
  obtain⟨vn,vh,va,l,u,i,hd⟩:=h.own;have z:l.length=q.acts.length:=by rw[<-i,qLm]
  exact aeU F o n p C (λe=>f (hd _ (.inr (.inr (.inl e))))) j c M (λe=>d (hd _ (.inr (.inr (.inl e))))) u I ω λa w v' L K J G H s=>post a _ L K J ⟨vn,vh,v',_,G,by rw[List.map_append,i];rfl,λb E=>abl hd s E⟩ (Le H (λb e=>hd b (.inr (.inr (.inl e)))) (.inl rfl))
theorem abm{y:Ac}(hd:∀b,rwB vn vh va (l++[(x,v)]) b->D b)(a:∀g,v'.ownBlock=some g->v.ownBlock=some g\/S<=g)(c:rwB vn vh va (l++[(y,v')]) b):D b\/S<=b:=by
 rcases c with e |e |e |⟨p,hp,e⟩
 .exact .inl (hd b (.inl e))
 .exact .inl (hd b (.inr (.inl e)))
 .exact .inl (hd b (.inr (.inr (.inl e))))
 .rw[List.mem_append,List.mem_singleton]at hp;rcases hp with hp |rfl
  .exact .inl (hd b (.inr (.inr (.inr ⟨p,by simp[hp],e⟩))))
  .exact(a b e).imp (λe=>hd b (.inr (.inr (.inr ⟨(x,v),σ,e⟩)))) id
theorem ag5(G:q.acts=es ++ [x])(O:a0.tmps.size=165)(K:a0.tmps.getD 4 undef=.pointer (some ⟨Pb,0,none⟩))(j:a0.tmps.getD 11 undef=.int .i64 (es.length:Int))(J:a0.tmps.getD 9 undef=.slice (some ⟨bi,oi,none⟩) im ic)(s:5<im)(U:w0.cell? ⟨bi,oi,none⟩=some (.int .i64 y.to.x))(F:w0.cell? ⟨bi,oi+1,none⟩=some (.int .i64 y.to.y))(E:w0.cell? ⟨bi,oi+2,none⟩=some (.int .i64 y.to.z))(C:w0.cell? ⟨bi,oi+3,none⟩=some (.int .i64 y.wait))(h4:w0.cell? ⟨bi,oi+4,none⟩=some (.int .i64 y.fl))(h5:w0.cell? ⟨bi,oi+5,none⟩=some (.int .i64 y.rise))(u:¬D bi)
    (h:St w0 B Pb D q)(T:B<=w0.heap.size)(M:x.dG.length+1<=1000000)
    (post:∀(a:Act) (W:World),a.tmps.size=a0.tmps.size->a.defers=a0.defers->(∀t,t<121\/153<t->a.tmps.getD t undef=a0.tmps.getD t undef)->St W B Pb (λb=>D b\/w0.heap.size<=b) ⟨q.names,q.homes,DJ q.acts y⟩->Kp w0 W D Pb->Q .normal a W) :
    (Code.region 24 xZ true).wpIn (FW none) m Tryz.prog Q a0 w0:=by
  obtain⟨vn,vh,va,l,H,I,hd⟩:=h.own;rw[G]at I;obtain⟨i,v,rfl,f⟩:=Ud I;obtain⟨X,V,c,d⟩:=TY (H.rows.own (wo va (i++[(x,v)])) (by simp[yP])) (by simp[wo]);change va=_ at c;change va.ownBlock=_ at d;have e:(wo va (i++[(x,v)])).n=i.length+1:=by simp[wo]
  rw[e]at c;have o:i.length=es.length:=by rw[<-f,qLm]
  refine aeV (p:=(x,v)) O K (by rw[j,o]) J s U F E C h4 h5 (λe=>u (hd _ (.inr (.inr (.inr ⟨(x,v),σ,e⟩))))) H T c M λa w v' F E C P R L=>post a _ F E C ⟨vn,vh,va,_,P,by rw[G,CP,List.map_append,f];rfl,λb N=>abm hd L N⟩ (Le R (λb e=>hd b (.inr (.inr (.inr ⟨(x,v),σ,e⟩)))) (.inr (hd _ (.inr (.inr (.inl d))))))
theorem ajn{x:V3}(K:a0.tmps.size=146)(t0:a0.tmps.getD 0 undef=.pointer (some ⟨Pb,0,none⟩))(u:a0.tmps.getD 5 undef=.slice (some ⟨bw,ow,none⟩) wn wc)(C:1<wn)(I:w0.cell? ⟨bw,ow+1,none⟩=some (.string (ba g)))(d:¬D bw)(s:a0.tmps.getD 6 undef=.slice (some ⟨bi,oi,none⟩) im ic)(n:2<im)(P:w0.cell? ⟨bi,oi,none⟩=some (.int .i64 x.x))(p:w0.cell? ⟨bi,oi+1,none⟩=some (.int .i64 x.y))(o:w0.cell? ⟨bi,oi+2,none⟩=some (.int .i64 x.z))(c:¬D bi)
    (h:St w0 B Pb D q)(N:B<=w0.heap.size)(G:q.names.length+1<=1000000)(j:q.homes.length+1<=1000000)
    (post:∀(a:Act) (W:World),a.tmps.size=a0.tmps.size->a.defers=a0.defers->(∀t,t<30\/60<t->a.tmps.getD t undef=a0.tmps.getD t undef)->St W B Pb (λb=>D b\/w0.heap.size<=b) ⟨q.names++[g],q.homes++[x],q.acts⟩->Kp w0 W D Pb->Q .normal a W) :
    (Code.region 6 tN true).wpIn (FW none) m Tryz.prog Q a0 w0:=by
  obtain⟨vn,vh,va,l,F,H,hd⟩:=h.own;refine agZ K t0 u C I (λe=>d (hd _ (.inl e))) (λe=>d (hd _ (.inr (.inl e)))) s n P p o (λe=>c (hd _ (.inl e))) (λe=>c (hd _ (.inr (.inl e)))) F N G j λa w v' f p o O L M E i=>post a _ p o O ⟨v',f,va,l,L,H,λb J=>?_⟩ (ag1 M (λb e=>hd b (.inl e)) λb e=>hd b (.inr (.inl e)));rcases J with e |e |e |e
  .exact(E b e).imp (λe=>hd b (.inl e)) id
  .exact(i b e).imp (λe=>hd b (.inr (.inl e))) id
  .exact .inl (hd b (.inr (.inr (.inl e))))
  .exact .inl (hd b (.inr (.inr (.inr e))))
theorem ag6{k:Int}(E:a0.tmps.size=146)(t0:a0.tmps.getD 0 undef=.pointer (some ⟨Pb,0,none⟩))(n:a0.tmps.getD 5 undef=.slice (some ⟨bw,ow,none⟩) wn wc)(o:1<wn)(z:w0.cell? ⟨bw,ow+1,none⟩=some (.string (ba g)))(f:¬D bw)(j:a0.tmps.getD 8 undef=.slice (some ⟨bi,oi,none⟩) im ic)(c:0<im)(L:w0.cell? ⟨bi,oi,none⟩=some (.int .i64 k))(d:¬D bi)
    (h:St w0 B Pb D q)(H:B<=w0.heap.size)(M:q.acts.length+1<=1000000)
    (post:∀(a:Act) (W:World),a.tmps.size=a0.tmps.size->a.defers=a0.defers->(∀t,t<73\/88<t->a.tmps.getD t undef=a0.tmps.getD t undef)->St W B Pb (λb=>D b\/w0.heap.size<=b) ⟨q.names,q.homes,q.acts++[⟨g,k,[]⟩]⟩->Kp w0 W D Pb->Q .normal a W) :
    (Code.region 11 x9 true).wpIn (FW none) m Tryz.prog Q a0 w0:=by
  obtain⟨vn,vh,va,l,s,i,hd⟩:=h.own;have u:l.length=q.acts.length:=by rw[<-i,qLm]
  exact aeZ E t0 n o z (λe=>f (hd _ (.inr (.inr (.inl e))))) j c L (λe=>d (hd _ (.inr (.inr (.inl e))))) s H ω λa w v' K J I F G p=>post a _ K J I ⟨vn,vh,v',_,F,by rw[List.map_append,i];rfl,λb C=>abl hd p C⟩ (Le G (λb e=>hd b (.inr (.inr (.inl e)))) (.inl rfl))
structure StL (W:World) (B Pb:Nat) (D:Nat->Prop) (q:Pg) (es:List Ac) (x:Ac) (ga:Nat):Prop where
 own:∃vn vh va l v gc,Own W B Pb vn vh va q.names q.homes (l++[(x,v)])/\l.map (·.1)=es/\(∀b,rwB vn vh va (l++[(x,v)]) b->D b)/\va=.slice (some ⟨ga,0,none⟩) (l.length+1) gc
theorem StL.grows{es:List Ac}{x:Ac}{a:Nat}{W w:World}(h:StL W B Pb D q es x a)(d:∀b,b<W.heap.size->w.heap[b]?=W.heap[b]?):StL w B Pb D q es x a:=by obtain⟨vn,vh,va,l,v,j,c,i,f,e⟩:=h.own;exact⟨vn,vh,va,l,v,j,c.grows d,i,f,e⟩
theorem ag7(u:q.acts=es ++ [x])(H:es.length<=1000000)(z:a0.tmps.size=146)(t0:a0.tmps.getD 0 undef=.pointer (some ⟨Pb,0,none⟩))(h:St w0 B Pb D q)
    (post:∀(a:Act) (j:Nat),a.tmps.size=a0.tmps.size->a.defers=a0.defers->(∀t,t≠12->t<106\/116<t->a.tmps.getD t undef=a0.tmps.getD t undef)->a.tmps.getD 12 undef=.pointer (some ⟨j,es.length*3,none⟩)->StL w0 B Pb D q es x j->Q .normal a {w0 with drawn:=w0.drawn+1}) :
    (Code.region 16 JD true).wpIn (FW none) m Tryz.prog Q a0 w0:=by
  obtain⟨vn,vh,va,l,o,f,hd⟩:=h.own;rw[u]at f;obtain⟨d,v,rfl,i⟩:=Ud f;obtain⟨j,G,c,s⟩:=TY (o.rows.own (wo va (d++[(x,v)])) (by simp[yP])) (by simp[wo]);change va=_ at c;have e:(wo va (d++[(x,v)])).n=d.length+1:=by simp[wo]
  rw[e]at c;have p:d.length=es.length:=by rw[<-i,qLm]
  exact ae0 z t0 o c ω λa F E C h4=>post a j F E C (by rw[h4,p]) ⟨vn,vh,va,d,v,G,o,i,hd,c⟩
theorem ag8{E:Nat}(G:q.acts=es ++ [x])(K:a0.tmps.size=146)(f:a0.tmps.getD 12 undef=.pointer (some ⟨E,es.length*3,none⟩))(i:a0.tmps.getD 10 undef=.slice (some ⟨bi,oi,none⟩) im ic)(n:5<im)(O:w0.cell? ⟨bi,oi,none⟩=some (.int .i64 y.to.x))(C:w0.cell? ⟨bi,oi+1,none⟩=some (.int .i64 y.to.y))(u:w0.cell? ⟨bi,oi+2,none⟩=some (.int .i64 y.to.z))(s:w0.cell? ⟨bi,oi+3,none⟩=some (.int .i64 y.wait))(h4:w0.cell? ⟨bi,oi+4,none⟩=some (.int .i64 y.fl))(h5:w0.cell? ⟨bi,oi+5,none⟩=some (.int .i64 y.rise))(o:¬D bi)
    (h:StL w0 B Pb D q es x E)(N:B<=w0.heap.size)(I:x.dG.length+1<=1000000)
    (post:∀(a:Act) (W:World),a.tmps.size=a0.tmps.size->a.defers=a0.defers->(∀t,t<117\/145<t->a.tmps.getD t undef=a0.tmps.getD t undef)->St W B Pb (λb=>D b\/w0.heap.size<=b) ⟨q.names,q.homes,DJ q.acts y⟩->Kp w0 W D Pb->Q .normal a W) :
    (Code.region 17 yc true).wpIn (FW none) m Tryz.prog Q a0 w0:=by
  obtain⟨vn,vh,va,l,v,P,H,d,hd,c⟩:=h.own;have j:l.length=es.length:=by rw[<-d,qLm]
  exact ae1 (p:=(x,v)) K (by rw[f,j]) i n O C u s h4 h5 (λe=>o (hd _ (.inr (.inr (.inr ⟨(x,v),σ,e⟩))))) H N c I λa w v' C u s L M F=>post a _ C u s ⟨vn,vh,va,_,L,by rw[G,CP,List.map_append,d];rfl,λb J=>abm hd F J⟩ (Le M (λb e=>hd b (.inr (.inr (.inr ⟨(x,v),σ,e⟩)))) (.inr (hd _ (.inr (.inr (.inl (by rw[c];rfl)))))))
end
end
section
theorem adM(args:Array Value)(w:World):(callFunc 79 args).run Tryz.prog w=.ok (.enter 79 args) w:=enters_of Tryz.func79 rfl rfl args w
theorem adD{w0:World}{M0:Nat->Prop}{Bl Br Bi:Nat}{Mx:Nat->Prop}{vs:List Value}{qs ps:List (List Sg)}{U:Option (List (Nat × Obj))}(Y:U≠none){s:List PV}(hit:OQ Tryz.prog U 79 s (ps.map OT)){A B:Code}(hA:A=wO)(hB:B=xA)
    {a:Act}{W:World}{Q:Exit->Act->World->Prop}(ha:a.tmps.size=44)(t3:a.tmps.getD 3 undef=.pointer (some ⟨Bl,0,none⟩))(t7:a.tmps.getD 7 undef=.pointer (some ⟨Bi,0,none⟩)){x:Array Value}(V:a.tmps.getD 24 undef=.func (.func 79) #[] x)
    {M1:Nat->Prop}(hlb:x.size=s.length)(hlv:∀(i:Nat) (c:PV),s[i]?=some c->VR W M1 c (x.getD i undef))(h:Held w0 M0 Bl Br Mx vs qs W)(J:W.heap[Bi]?=some (.cells #[.int .i64 0] 3 (0,0)))(aph:w0.heap.size<=Bi)(apj:¬Mx Bi)
    (o:∀b,M1 b->b<W.heap.size/\(M0 b\/w0.heap.size<=b)/\b≠Bi/\b≠Bl/\b≠Br/\∀(j:Nat) (v:Value),vs[j]?=some v->v.ownBlock≠some b)
    (z:∀p∈U.getD [],M1 p.1/\W.heap[p.1]?=some p.2)(hn:ps.length<=qs.length)(hq:∀q∈ps,q≠[])(H:∀j,(qs.getD j []).length+(ps.getD j []).length<=1000000)(Z:ps.length<=1000000)
    (post:∀(D:Nat) (W':World) (N:Nat->Prop) (w:List Value),Held w0 M0 Bl Br N w (lI qs ps) W'->W'.heap[D]?=some (.deferred (some []))->W.heap.size<=D->¬N D->W.heap.size<=W'.heap.size ->
      (∀b,b<W.heap.size->b≠Bi->b≠Bl->b≠Br->(∀(j:Nat) (v:Value),vs[j]?=some v->v.ownBlock≠some b)->W'.heap[b]?=W.heap[b]?)->(∀b,N b->Mx b\/M1 b\/W.heap.size<=b)->Q .normal {a with defers:=qc D::a.defers} W') :
    (Code.rangeFunc (.tmp 24) #[25,26] A B).wpIn (FW none) 0 Tryz.prog Q a W:=by
  subst hA hB;refine wpIn_rangeFunc λfn _=>?_;generalize k:({state:=.ready,pending:=none,fn:=fn,tmps:=a.tmps,params:=#[25,26],assign:=wO,body:=xA,defers:=W.heap.size}:Loop)=l;obtain⟨W1,f⟩:∃W1,(W.alloc (.deferred (some []))).alloc (.loop l)=W1:=⟨_,rfl⟩;have hs1:W1.heap.size=W.heap.size+2:=by rw[<-f];simp
  have m:∀b,b<W.heap.size->W1.heap[b]?=W.heap[b]?:=λb d=>by rw[<-f];exact(Below.heap_alloc _ _ b (by simp;omega)).trans (Below.heap_alloc _ _ b d)
  have hD1:W1.heap[W.heap.size]?=some (.deferred (some [])):=by rw[<-f];exact(Below.heap_alloc _ _ _ σ).trans (World.alloc_heap_new W _)
  have hl1:W1.heap[W.heap.size+1]?=some (.loop l):=by rw[<-f];have:=World.alloc_heap_new (W.alloc (.deferred (some []))) (.loop l);grind[World.size_alloc]
  have t:rM U W W1:=by rw[<-f];exact(rM.alloc W _).trans (rM.alloc _ _) (λ_ _ h=>h)
  have F:(Instr.enterLoop fn a.tmps #[25,26] wO xA none).run Tryz.prog W=.ok (W.heap.size+1,[{target:=.collected W.heap.size,args:=#[]}]) W1:=by rw[<-f,<-k];exact run_enterLoop_outer _ _ _ _ _
  clear f;have H1:Held w0 M0 Bl Br Mx vs qs W1:=h.grow t.size m t.os t.tape t.output;have apk:Bi<W.heap.size:=(qAa.1 J).1;have G:∀(j:Nat) (v:Value) (g:Nat),vs[j]?=some v->v.ownBlock=some g->g<W.heap.size:=λj v g E T=>by obtain⟨q,_,hr⟩:=h.at_ E;exact(hr.lt g T).2
  let R:Nat->Prop:=λb=>b=Bi\/b=Bl\/b=Br\/b=W.heap.size+1\/∃(j:Nat) (v:Value),vs[j]?=some v/\v.ownBlock=some b;let MS:Nat->Prop:=λb=>Mx b\/M1 b;refine⟨W.heap.size+1,[{target:=.collected W.heap.size,args:=#[]}],W1,{target:=.fn (.func 79) x,args:=#[.func (.yield (W.heap.size+1)) #[] #[]]},W1,79,#[.func (.yield (W.heap.size+1)) #[] #[]]++x,W1,F,?_,λ_ _=>trivial,?_,uo none,?_⟩
  .have:a.eval (.tmp 24)=.func (.func 79) #[] x:=V;simp only[resolve,this];simp[go_sem]
  .simp only[invoke];exact adM _ _
  refine bW _ ?_;have hJ0:Mid w0 M0 Bl Br Bi (W.heap.size+1) l W1 R MS qs ps (ps.map OT) R (λ_=>False) W1:=by refine⟨0,Mx,vs,Nat.zero_le _,rfl,by rw[List.take_zero,SL];exact H1,(m Bi apk).trans J,hl1,⟨apj,λy=>?_⟩,λb=>Iff.rfl,λb d=>.inl d,λ_ _ _=>rfl,qNr _,λb d=>.inl (.inl d),λb d=>.inl (by have:=(h.mlt _ d).1;omega),λ_ h=>h.elim⟩;have:=(h.mlt _ y).1;omega
  refine Calls.mono (hit W1 M1 (W.heap.size+1) x (Mid w0 M0 Bl Br Bi (W.heap.size+1) l W1 R MS qs ps) (λ_ _ _=>False) R (λp hp=>⟨(z p hp).1,(m _ (o _ (z p hp).1).1).trans (z p hp).2⟩) hlb (λi c hc=>(hlv i c hc).mono λb d=>⟨d,m b (o b d).1⟩) (λb d=>⟨by have:=(o b d).1;omega,?_⟩)
   (λr=>Mid.bears (by have:=h.below.size;omega)) (λO K X X' S hx=>hx.elim) (λr O K X y=>y.lt) ?_ hJ0) ?_
  .grind
  .intro us r O K X M ak y hX hM hcs hcv;exact abU Y k.symm ha t3 t7 hn hq H Z (MR:=M1) (λb d=>.inr d) (λb d=>(o b d).2.1) (by have:=h.below.size;omega) aph (by have:=h.below.size;omega) us r O K X M ak y hX hM hcs hcv
  .rintro e W2 ⟨⟨v,rfl⟩,O,K,⟨i,N,w,h1,h2,h3,h4,h5,h6,h7,h8,h9,h10,L,h12,h13⟩ |hf⟩
   .have hi:ps.length<=i:=by have:=congrArg List.length h2;simp at this;omega
    have hi:i=ps.length:=ω
    subst hi;rw[List.take_length]at h3;have n:=run_endLoop (P:=Tryz.prog) h5 (by rw[<-k];simp);generalize C:W2.putObj (W.heap.size+1) _=wE at n;rw[show l.pending=none by rw[<-k]]at n;refine⟨none,wE,n,?_⟩;have apl:∀b,R b->b≠W.heap.size:=by
     rintro b (rfl|rfl|rfl|rfl |⟨j,v,E,e⟩)
     .omega
     .have:=h.lt;omega
     .have:=h.lt;omega
     .omega
     .have:=G j v b E e;omega
    have hD2:W2.heap[W.heap.size]?=some (.deferred (some [])):=(h9 _ ω λho=>apl _ ho rfl).trans hD1;have T:W2.grownBy wE (some (W.heap.size+1)):=by rw[<-C];exact grownBy_putObj_a _ _ _
    have I:∀b,b≠W.heap.size+1->wE.heap[b]?=W2.heap[b]?:=λb d=>by rw[<-C];exact World.putObj_heap_other d
    have hl2:W2.heap.size<=wE.heap.size:=T.size;have nl:W.heap.size+1≠Bl/\W.heap.size+1≠Br:=by have:=h.lt;omega
    refine post W.heap.size wE N w (h3.other (by have:=h.below.size;omega) h5 nl h6.2 (λcur e=>by cases e) T) ((I _ ω).trans hD2) (qNr _) (λy=>?_) ω (λb d q1 q2 q3 q4=>?_) λb d=>?_
    .rcases L _ y with (u |u) |u
     .have:=(h.mlt _ u).1;omega
     .have:=(o _ u).1;omega
     .omega
    .rw[I b ω];refine(h9 b ω ?_).trans (m b d);rintro (e |e |e |e |⟨j,v,E,e⟩)
     .exact q1 e
     .exact q2 e
     .exact q3 e
     .omega
     .exact q4 j v E e
    .rcases L b d with (u |u) |u
     .exact .inl u
     .grind
     omega
   grind
end
end Go.Skm.Prg
