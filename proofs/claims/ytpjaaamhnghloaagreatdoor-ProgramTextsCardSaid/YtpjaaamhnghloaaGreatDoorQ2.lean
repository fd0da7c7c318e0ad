import Derived.Test.YtpjaaamhnghloaaGreatDoorPL1
import Derived.Test.YtpjaaamhnghloaaGreatDoorAll1
import Derived.OwnWalk
import Derived.Test.YtpjaaamhnghloaaGreatDoorSkmI
import Derived.Shelf.SlIter.Collect
import Derived.Maps.AppendAt
set_option linter.all false
namespace Go.Skm.Prg
open Go Go.Skm Go.Proofs
section
variable {p q:Pg}{L k:Nat}{s:List UInt8}{n:List Int}{ls w:List (List UInt8)}{f:Pg->List UInt8->Option Pg}
def mW:List (List UInt8)->Nat
 |[]=>0
 |x::r=>x.length+1+mW r
theorem PL:∀a b:List (List UInt8),mW (a++b)=mW a+mW b
 |[],b=>by simp[mW]
 |x::a,b=>by have:=PL a b;grind[mW]
theorem TT(c:UInt8):∀l:List (List UInt8),l≠[]->(MQ c l).length+1=mW l
 |[],h=>absurd rfl h
 |[p],_=>by simp[MQ,mW]
 |p::q::r,_=>by have:=TT c (q::r) σ;grind[MQ,qLp,qLl,mW]
theorem Bh(c:UInt8)(s:List UInt8):mW (bG c s)=s.length+1:=by rw[<-TT c _ (mO c s),JA]
theorem TU(l:List (List UInt8))(k:Nat):mW (l.take k)<=mW l:=by have:=PL (l.take k) (l.drop k);simp_all
theorem RU(l:List (List UInt8)):mW l.dropLast<=mW l:=by rw[List.dropLast_eq_take];exact TU ..
theorem Vo(s:List UInt8):mW (lY s)<=s.length+1:=by rw[<-Bh 10 s];exact RU _
theorem Vp(s:List UInt8):mW (vC s)<=s.length+1:=by
 unfold vC;split
 .exact Vo s
 simp[Bh]
structure Sz (p:Pg) (L:Nat):Prop where
 names:16*p.names.length<=L
 homes:16*p.homes.length<=L
 acts:7*p.acts.length<=L
 act:∀a∈p.acts,17*a.dG.length<=L/\a.name.length<=L/\(-9223372036854775808<=a.len/\a.len<=9223372036854775807)
 name:∀g∈p.names,g.length<=L
theorem Vq:Sz ⟨[],[],[]⟩ 0:=⟨σ,σ,σ,σ,σ⟩
theorem Sz.mono{L':Nat}(h:Sz p L)(d:L<=L'):Sz p L':=by obtain⟨j,i,e,h4,h5⟩:=h;exact⟨ω,ω,ω,λa b=>⟨by have:=(h4 a b).1;omega,by have:=(h4 a b).2.1;omega,(h4 a b).2.2⟩,λg c=>by have:=h5 g c;omega⟩
theorem Sz.small(h:Sz p L)(d:L<=1600):Small p:=by obtain⟨j,i,e,h4,h5⟩:=h;exact⟨ω,ω,ω,λa b=>⟨by have:=(h4 a b).1;omega,by have:=(h4 a b).2.1;omega,(h4 a b).2.2⟩,λg c=>by have:=h5 g c;omega⟩
def Nums(o:Option (List Int))(w:List (List UInt8)):Prop:=∀n,o=some n->n.length=w.length/\(∀s∈w,s≠[])/\∀x∈n,-9223372036854775808<=x/\x<=9223372036854775807
theorem aeC:∀(d:List UInt8) (a:Int),d.all Jv=true->0<=a->0<=qU a d/\qU a d<(a+1)*10^d.length
 |[],a,_,h=>by simp[qU];omega
 |x::d,a,h,h0=>by simp only[List.all_cons,qBa,Jv,qDa]at h;have:=aeC d (Vf a x) h.2 (by unfold Vf;omega);refine⟨this.1,Int.lt_of_lt_of_le this.2 ?_⟩;rw[qLl,Int.pow_succ,Int.mul_comm _ 10,<-Int.mul_assoc];exact Int.mul_le_mul_of_nonneg_right (by unfold Vf;omega) (by exact Int.le_of_lt (Int.pow_pos δ))
theorem Vr(s d:List UInt8)(g:Int)(b:g=1\/g=-1)(h:(Ba s d g).2=true):-100000000<(Ba s d g).1/\(Ba s d g).1<100000000/\Lib.itoa (Ba s d g).1=s:=by
 unfold Ba at h ⊢;split at h
 .cases h
 .rename_i a;rw[if_neg a];split at h
  .rename_i hd;rw[if_pos hd];have:=aeC d 0 hd (Int.le_refl _);have p:(10:Int)^d.length<=100000000:=by
    have:d.length=0\/d.length=1\/d.length=2\/d.length=3\/d.length=4\/d.length=5\/d.length=6\/d.length=7\/d.length=8:=ω
    grind
   grind
  .cases h
theorem agR(h:(Bc s).2=true):(-9223372036854775808<=(Bc s).1/\(Bc s).1<=9223372036854775807)/\s≠[]:=by
 refine⟨?_,λe=>?_⟩
 .unfold Bc at h ⊢;split at h
  .have:=Vr _ _ _ (.inr rfl) h;omega
  .rename_i b;have:=Vr _ _ _ (.inl rfl) h;omega
 .subst e;have:=(Vr [] [] 1 (.inl rfl) h).2.2;have a:(Ba [] [] 1).1=0:=rfl;rw[a,xO δ,sG δ]at this;cases this
theorem PN:∀w:List (List UInt8),Nums (qp w) w
 |[],n,h=>by cases h;simp
 |s::w,n,h=>by
  rw[qp]at h;split at h
  .rename_i e;rw[Option.map_eq_some_iff]at h;obtain⟨m,d,rfl⟩:=h;obtain⟨a,b,c⟩:=PN w m d;have:=agR e;grind
  .cases h
theorem agS(h:TP s=true):(-9223372036854775808<=Py s/\Py s<=9223372036854775807)/\s≠[]:=by
 refine⟨?_,λe=>?_⟩
 .unfold TP at h;split at h
  .rename_i v a;have:=Zw a;simp_all[Py,Bd]
  .cases h
 .subst e;cases h
theorem XW:∀w:List (List UInt8),Nums (Bf w) w
 |[],n,h=>by cases h;simp
 |s::w,n,h=>by
  rw[Bf]at h;split at h
  .rename_i e;rw[Option.map_eq_some_iff]at h;obtain⟨m,d,rfl⟩:=h;obtain⟨a,b,c⟩:=XW w m d;have:=agS e;grind
  .cases h
theorem Bj(w:List (List UInt8))(k:Nat):Nums (mF w k) w:=by
 intro n h;unfold mF at h;split at h
 .rename_i l a;split at h
  .cases h;exact XW w _ a
  .cases h
 .cases h
theorem agT(h:∀x∈n,-9223372036854775808<=x/\x<=9223372036854775807)(k:Nat):-9223372036854775808<=n.getD k 0/\n.getD k 0<=9223372036854775807:=by rw[qLb];by_cases a:k<n.length;all_goals simp_all
theorem zI(h:s≠[]):1<=s.length:=List.length_pos_iff.2 h
theorem aeD(d:w.headD []=vY)(e:(w.drop 2).length=3)(h:∀s∈w.drop 2,s≠[]):16<=mW w/\(w.getD 1 []).length<=mW w:=by
 match w,d,e,h with
 |[x,g,a,b,c],d,_,h=>simp at d;subst d;simp at h;have l:=zI h.1;have j:=zI h.2.1;have i:=zI h.2.2;simp[mW,vY];omega
theorem aeE(b:w.headD []=uI)(c:(w.drop 2).length=1)(h:∀s∈w.drop 2,s≠[]):7<=mW w/\(w.getD 1 []).length<=mW w:=by
 match w,b,c,h with
 |[x,g,a],b,_,h=>simp at b;subst b;simp at h;have d:=zI h;grind[mW,uI]
theorem aeF(g:w.headD []=vZ)(o:(w.drop 1).length=6)(h:∀s∈w.drop 1,s≠[]):17<=mW w:=by
 match w,g,o,h with
 |[x,a,b,c,d,e,f],g,_,h=>simp at g;subst g;simp at h;obtain⟨m,l,j,h4,h5,i⟩:=h;have m:=zI m;have l:=zI l;have j:=zI j;have h4:=zI h4;have h5:=zI h5;have i:=zI i;grind[mW,vZ]
theorem acA{l:List Ac}{m:Mv}{a:Ac}(h:a∈DJ l m):a∈l\/∃b∈l,a={b with dG:=b.dG++[m]}:=by rcases List.eq_nil_or_concat l with rfl |⟨c,b,rfl⟩;all_goals grind[DJ]
theorem acB(l:List Ac)(m:Mv):(DJ l m).length=l.length:=by
 rcases List.eq_nil_or_concat l with rfl |⟨a,b,rfl⟩
 .rfl
 simp[List.concat_eq_append,CP]
theorem Ou(l:(w.headD []=vZ->k=1)/\(w.headD []≠vZ->k=2)){o:Option (List Int)}(r:Nums o (w.drop k))(t:o=some n)(h:jQ p w n=some q)(hp:Sz p L):Sz q (L+mW w):=by
 obtain⟨v,m,e3⟩:=r n t;unfold jQ at h;have hp':=hp.mono (Nat.le_add_right L (mW w));split at h
 .rename_i d;cases h;have e:k=2:=l.2 (by rw[d.1];decide);subst e;have:=aeD d.1 ω m;refine⟨?_,?_,hp'.acts,hp'.act,?_⟩
  .have:=hp.names;simp;omega
  .have:=hp.homes;simp;omega
  .intro g i;rcases List.mem_append.1 i with i |i
   .exact hp'.name g i
   grind
 .split at h
  .rename_i d;cases h;have e:k=2:=l.2 (by rw[d.1];decide);subst e;have:=aeE d.1 ω m;refine⟨hp'.names,hp'.homes,?_,?_,hp'.name⟩
   .have:=hp.acts;simp;omega
   .intro a c;rcases List.mem_append.1 c with c |c
    .exact hp'.act a c
    .rw[List.mem_singleton.1 c];exact⟨σ,by show(w.getD 1 []).length<=_;omega,agT e3 0⟩
  .split at h
   .rename_i d;cases h;have j:k=1:=l.1 d.1;subst j;have:=aeF d.1 ω m;refine⟨hp'.names,hp'.homes,?_,?_,hp'.name⟩
    .have:=hp'.acts;grind[acB]
    .intro a c;rcases acA c with c |⟨b,u,rfl⟩
     .exact hp'.act a c
     .obtain⟨b1,y,x⟩:=hp.act b u;grind
   .cases h
def Gr(f:Pg->List UInt8->Option Pg):Prop:=∀p q s L,f p s=some q->Sz p L->Sz q (L+(s.length+1))
theorem aeG:Gr rdR:=by
 intro p q s L h hp;rw[rdR,Vk]at h;split at h
 .rw[Option.bind_eq_some_iff]at h;obtain⟨n,a,h⟩:=h;rw[<-Bh 32 s];exact Ou (k:=DK (bG 32 s)) ⟨λe=>by unfold DK;rw[if_pos e],λe=>by unfold DK;rw[if_neg e]⟩ (PN _) a h hp
 .cases h
theorem Zx:Gr N8:=by
 intro p q s L h hp;rw[N8,WO]at h;rw[<-Bh 32 s];split at h
 .rename_i e;rw[Option.bind_eq_some_iff]at h;obtain⟨n,b,h⟩:=h;exact Ou (k:=2) ⟨λa=>by rw[e]at a;exact absurd a δ,λ_=>rfl⟩ (Bj _ 3) b h hp
 .split at h
  .rename_i e;rw[Option.bind_eq_some_iff]at h;obtain⟨n,b,h⟩:=h;exact Ou (k:=2) ⟨λa=>by rw[e]at a;exact absurd a δ,λ_=>rfl⟩ (Bj _ 1) b h hp
  .split at h
   .rename_i e;rw[Option.bind_eq_some_iff]at h;obtain⟨n,b,h⟩:=h;exact Ou (k:=1) ⟨λ_=>rfl,λa=>absurd e a⟩ (Bj _ 6) b h hp
   .cases h
theorem Ov{f:Pg->List UInt8->Option Pg}(a:Gr f):∀(ls:List (List UInt8)) (p q:Pg) (L:Nat),iw f p ls=some q->Sz p L->Sz q (L+mW ls)
 |[],p,q,L,h,hp=>by cases h;exact hp
 |x::r,p,q,L,h,hp=>by rw[iw,Option.bind_eq_some_iff]at h;obtain⟨q1,c,b⟩:=h;have:=Ov a r q1 q _ b (a p q1 x L c hp);grind[mW]
theorem Zy(h:iw f p (ls.take k)=some q)(a:k<ls.length):iw f p (ls.take (k+1))=f q ls[k]:=by rw[List.take_add_one,qLd a,sO,h];simp[Option.toList_some,qOb,iw]
theorem Zz(h:iw f p (ls.take k)=none):iw f p ls=none:=by rw[<-List.take_append_drop k ls,sO,h];rfl
end
section
def G7:List (List UInt8)->List (List UInt8)
 |[]=>[]
 |[p]=>if p=[]then []else [p]
 |p::q::r=>(p++[10])::G7 (q::r)
def fl(s:List UInt8):List (List UInt8):=G7 (bG 10 s)
theorem ajk:fl []=[]:=rfl
theorem ajl{t:List UInt8}(h:(10:UInt8) ∉ t)(a:t≠[]):fl t=[t]:=by rw[fl,uK h,G7,if_neg a]
theorem agU{x:List UInt8}(y:List UInt8)(h:(10:UInt8) ∉ x):fl (x++10::y)=(x++[10])::fl y:=by
 rw[fl,sK _ h,fl];cases a:bG 10 y with
 |nil=>exact absurd a (mO 10 y)
 |cons q r=>rfl
theorem acD(p:List UInt8):trimB (p++[10])=p:=by simp[trimB]
theorem acE{p:List UInt8}(h:(10:UInt8) ∉ p):trimB p=p:=by unfold trimB;grind
theorem TV:∀ps:List (List UInt8),(∀p∈ps,(10:UInt8) ∉ p)->(G7 ps).map trimB=if ps.getLast?=some []then ps.dropLast else ps
 |[],_=>rfl
 |[p],h=>by
  have hp:=h p σ;by_cases e:p=[]
  .subst e;rfl
  .simp[G7,e,acE hp]
 |p::q::r,h=>by have:=TV (q::r) λx a=>h x (by simp[a]);rw[G7,List.map_cons,acD,this,List.getLast?_cons_cons,List.dropLast_cons_cons];split<;>rfl
theorem Vs(s:List UInt8):(fl s).map trimB=vC s:=TV _ λ_ hp=>PO hp
theorem aeH:∀ps:List (List UInt8),∀x∈G7 ps,x.length<=mW ps
 |[],x,h=>by simp[G7]at h
 |[p],x,h=>by grind[G7,mW]
 |p::q::r,x,h=>by
  rw[G7,List.mem_cons]at h;rcases h with rfl |h
  .simp[mW]
  .have:=aeH (q::r) x h;grind[mW]
theorem aeI{s x:List UInt8}(h:x∈fl s):x.length<=s.length+1:=by have:=aeH _ x h;grind[Bh]
end
section
open Go.RowKit
variable {val:Nat->Value}{a a0:Act}{L:Nat->Bool}{d i:Nat}{o:Oper}
section
variable {F:Fence}{n:Nat}{P:Program}{ops:Array Oper}{Q:Exit->Act->World->Prop}
structure Ups (ops:Array Oper) (val:Nat->Value) (a0:Act) (L:Nat->Bool) (a:Act):Prop where
 size:a.tmps.size=a0.tmps.size
 defers:a.defers=a0.defers
 keep:∀t,(∀(i:Nat) o,ops[i]?=some o->o.dst≠some t)->a.tmps.getD t undef=a0.tmps.getD t undef
 got:∀(i:Nat) o d,ops[i]?=some o->o.dst=some d->L i=true->a.tmps.getD d undef=val i
theorem Ups.out(h:Ups ops val a0 L a){t:Nat}(b:((List.range ops.size).all λi=>match ops[i]? with |some o=>o.dst != some t |none=>true)=true):a.eval (.tmp t)=a0.tmps.getD t undef:=by refine h.keep t λi o c e=>?_;grind
theorem Ups.at(h:Ups ops val a0 L a)(i:Nat)(hd:(ops[i]?.bind (·.dst))=some d)(b:L i=true):a.eval (.tmp d)=val i:=by obtain⟨o,e,c⟩:=Option.bind_eq_some_iff.1 hd;exact h.got i o d e c b
def Il(ops:Array Oper)(m:Nat):Bool:=(List.range ops.size).all λi=>match ops[i]?.bind (·.dst)with
 |some d=>Nat.blt d m&&(List.range ops.size).all λj=>j==i||(match ops[j]?.bind (·.dst)with |some e=>e != d |none=>true)
 |none=>true
theorem ady{m:Nat}(h:Il ops m=true)(c:ops[i]?=some o)(hd:o.dst=some d):d<m/\∀(j:Nat) b,ops[j]?=some b->b.dst=some d->j=i:=by have e:=List.all_eq_true.1 h i (List.mem_range.2 (qAa.1 c).1);simp only[c,qOb,hd,qBa]at e;refine⟨Eq.mp Nat.blt_eq e.1,λj b g f=>?_⟩;grind
theorem Ups.put{val:Nat->Value}{a0 a:Act}{L:Nat->Bool}(h:Ups ops val a0 L a)(k:Il ops a0.tmps.size=true){i:Nat}{o:Oper}(l:ops[i]?=some o)(v:Value) :
    Ups ops (λj=>if j=i then v else val j) a0 (λj=>L j||j==i) (a.put o.dst v):=by
  cases hd:o.dst with
  |none=>
   refine⟨h.size,h.defers,h.keep,λj g d c b f=>?_⟩;by_cases e:j=i
   .grind
   .have m:(j==i)=false:=by simpa using e
    rw[m,Bool.or_false]at f;rw[if_neg e];exact h.got j g d c b f
  |some d=>
   obtain⟨s,r⟩:=ady k l hd;refine⟨by simp[Act.put,h.size],h.defers,λt p=>?_,λj g q c b f=>?_⟩
   .rw[<-h.keep t p];have:d≠t:=λe=>p i o l (by rw[hd,e]);simp_all[Act.put,qAb]
   .by_cases e:j=i
    .subst e;rw[l]at c;cases c;rw[hd]at b;cases b;have:d<a.tmps.size:=by rw[h.size];exact s
     simp_all[Act.put]
    .have m:(j==i)=false:=by simpa using e
     rw[m,Bool.or_false]at f;rw[if_neg e,<-h.got j g q c b f];have:d≠q:=λu=>e (r j g c (by rw[b,u]));simp_all[Act.put,qAb]
def JB(ops:Array Oper):Bool:=(List.range ops.size).all λi=>match ops[i]? with
 |some o=>o.after.toList.all λe=>!Region.binds .any e||Nat.blt e.on i
 |none=>true
theorem agV(I:(Nat->Bool)->(Nat->Value)->World->Prop)(q:P.follows .mixedOrders=true)(u:JB ops=true){w0:World}(l:Il ops a0.tmps.size=true)
    (step:∀L val a w i o,ops[i]?=some o->L i=false->(∀e∈o.after.toList,Region.binds .any e=true->L e.on=true)->Ups ops val a0 L a->I L val w ->
      wpOpIn F n P ops Q i (λa' w'=>∃v,a'=a.put o.dst v/\I (λj=>L j||j==i) (λj=>if j=i then v else val j) w') a w)
    (c:I (λ_=>false) (λ_=>undef) {w0 with drawn:=w0.drawn+1})
    (p:∀L val a w,(∀i,i<ops.size->L i=true)->Ups ops val a0 L a->I L val w->Q .normal a w){id:Nat}:(Code.region id ops true).wpIn F n P Q a0 w0:=by
  refine wpIn_region_any q (aaI (λL a w=>∃val,Ups ops val a0 L a/\I L val w) (λi o f e m t=>?_) (λL a w i o f r m ⟨val,b,k⟩=>?_) (λL a w g ⟨val,b,k⟩=>p L val a w g b k) _ _ _ _ σ ?_ ?_)
  .have b:=List.all_eq_true.1 u i (List.mem_range.2 (qAa.1 f).1);rw[f]at b;have k:=List.all_eq_true.1 b e m;simp_all
  .exact wpOpIn_mono (λa' w' ⟨v,x,h4⟩=>⟨_,x▸b.put l f v,h4⟩) (step L val a w i o f r m b k)
  .refine Nat.le_trans (List.length_filter_le _ _) ?_;simp
  .have s:(λi=>(Array.replicate ops.size false).getD i false)=λ_=>false:=by funext i;rw[qAb,Array.getElem?_replicate];split<;>rfl
   rw[s];exact⟨λ_=>undef,⟨rfl,rfl,λ_ _=>rfl,λi _ _ _ _ h=>(by cases h)⟩,c⟩
theorem MV{K:Act->World->Prop}{w w':World}{v:Value}(g:ops[i]?=some o)(j:Region.wanted o (yielded ops a.tmps)=true)(b:o.about P w a.eval=none)(hd:∀c,o.op≠.defer c)
    (e:(execOp a.eval o).run P w=.ok (.value v) w')(k:K (a.put o.dst v) w'):wpOpIn F n P ops Q i K a w:=by
  unfold wpOpIn;rw[g];simp only[j,if_true];unfold Oper.wpIn;refine⟨λf h=>(by rw[b]at h;cases h),?_⟩;rw[Oper.semAt_plain F _ _ hd,e];exact k
end
section
variable {P:Program}{T:Tab}{gl:Option (List (Nat × Obj))}{C:aB}
end
end
section
open Go.RowKit
variable {i id:Nat}{a a0:Act}{w w0:World}{o:Oper}
section
variable {F:Fence}{n:Nat}{P:Program}{ops:Array Oper}{Q:Exit->Act->World->Prop}
theorem Vt{K:Act->World->Prop}{w':World}(e:ops[i]?=some o)(g:Region.wanted o (yielded ops a.tmps)=true)(b:o.about P w a.eval=none)(hd:∀c,o.op≠.defer c)
    (d:(execOp a.eval o).run P w=.ok .skip w')(j:K (a.put o.dst undef) w'):wpOpIn F n P ops Q i K a w:=by
  unfold wpOpIn;rw[e];simp only[g,if_true];unfold Oper.wpIn;refine⟨λf h=>(by rw[b]at h;cases h),?_⟩;rw[Oper.semAt_plain F _ _ hd,d];exact j
def calm(o:Oper):Bool:=match o.op with
 |.call _=>false
 |.defer _=>false
 |_=>true
theorem qY{r:Prop}(b:Region.wanted o (yielded ops a.tmps)=true)(d:calm o=true)(h:r):Region.wanted o (yielded ops a.tmps)=true/\o.about P w a.eval=none/\(∀c,o.op≠.defer c)/\r:=by grind[calm,Oper.about]
abbrev okV(v:Value)(w:World):Result Next:=Result.ok (Next.value v) w
structure Ik (ops:Array Oper) (o:Oper) (a0 a:Act) (val:Nat->Value):Prop where
 size:a.tmps.size=a0.tmps.size
 out:∀t,((List.range ops.size).all λi=>match ops[i]? with |some o=>o.dst != some t |none=>true)=true->a.eval (.tmp t)=a0.tmps.getD t undef
 at_:∀e∈o.after.toList,Region.binds .any e=true->∀d,(ops[e.on]?.bind (·.dst))=some d->a.eval (.tmp d)=val e.on
def Shut(ops:Array Oper)(L:Nat->Bool):Prop:=∀(i:Nat) (o:Oper),ops[i]?=some o->L i=true->∀e∈o.after.toList,Region.binds .any e=true->L e.on=true
theorem Shut.put{L:Nat->Bool}(h:Shut ops L)(k:ops[i]?=some o)(l:∀e∈o.after.toList,Region.binds .any e=true->L e.on=true):Shut ops λj=>L j||j==i:=λj b d c e g f=>by
 by_cases q:j=i
 .grind
 .show(L e.on||e.on==i)=true;rw[h j b d (by simpa[q] using c) e g f];rfl
theorem FY(Kn:Nat->Bool)(kv:Nat->Value)(J:(Nat->Bool)->(Nat->Value)->World->Prop)(K:P.follows .mixedOrders=true)(M:JB ops=true)(z:Il ops a0.tmps.size=true)
    (N:∀L val w i,i<ops.size->Kn i=true->L i=false->J L val w->J (λj=>L j||j==i) (λj=>if j=i then kv i else val j) w)
    (quiet:∀(L:Nat->Bool) (val:Nat->Value) (a:Act) (w:World) (i:Nat) (o:Oper),ops[i]?=some o->Kn i=true->L i=false->(∀e∈o.after.toList,Region.binds .any e=true->L e.on=true)->(∀j,L j=true->Kn j=true->val j=kv j)->Ik ops o a0 a val->J L val w ->
      Region.wanted o (yielded ops a.tmps)=true/\o.about P w a.eval=none/\(∀c,o.op≠.defer c)/\(execOp a.eval o).run P w=.ok (.value (kv i)) w)
    (other:∀(L:Nat->Bool) (val:Nat->Value) (a:Act) (w:World) (i:Nat) (o:Oper),ops[i]?=some o->Kn i=false->L i=false->(∀e∈o.after.toList,Region.binds .any e=true->L e.on=true)->Shut ops L->(∀j,L j=true->Kn j=true->val j=kv j)->Ik ops o a0 a val->J L val w ->
      Region.wanted o (yielded ops a.tmps)=true/\o.about P w a.eval=none/\(∀c,o.op≠.defer c)/\∃v w',((execOp a.eval o).run P w=.ok (.value v) w'\/(v=undef/\(execOp a.eval o).run P w=.ok .skip w'))/\J (λj=>L j||j==i) (λj=>if j=i then v else val j) w')
    (k:J (λ_=>false) (λ_=>undef) {w0 with drawn:=w0.drawn+1})
    (D:∀(L:Nat->Bool) (val:Nat->Value) (a:Act) (w:World),(∀i,i<ops.size->L i=true)->(∀j,L j=true->Kn j=true->val j=kv j)->Ups ops val a0 L a->J L val w->Q .normal a w):(Code.region id ops true).wpIn F n P Q a0 w0:=by
  refine agV (λL val w=>(∀j,L j=true->Kn j=true->val j=kv j)/\Shut ops L/\J L val w) K M z ?_ ⟨λj h=>(by cases h),λ_ _ _ h=>(by cases h),k⟩ λL val a w m p h=>D L val a w m h.1 p h.2.2;intro L val a w i o g B y p ⟨H,l,A⟩;have f:=l.put g y;have G:Ik ops o a0 a val:=⟨p.size,λt I=>p.out I,λe C r d hd=>p.at e.on hd (y e C r)⟩;cases x:Kn i with
  |true=>
   obtain⟨q1,u,s,b⟩:=quiet L val a w i o g x B y H G A;refine MV g q1 u s b ⟨_,rfl,λj C r=>?_,f,N L val w i (qAa.1 g).1 x B A⟩;show(if j=i then kv i else val j)=kv j;by_cases e:j=i
   .grind
   grind
  |false=>
   obtain⟨q1,u,s,v,w',b,E⟩:=other L val a w i o g x B y l H G A;have q:∀j,(L j||j==i)=true->Kn j=true->(if j=i then v else val j)=kv j:=λj C r=>by
    have:j≠i:=λe=>by rw[e,x]at r;cases r
    grind
   rcases b with b |⟨rfl,b⟩
   .exact MV g q1 u s b ⟨v,rfl,q,f,E⟩
   .exact Vt g q1 u s b ⟨_,rfl,q,f,E⟩
theorem acF(kv:Nat->Value)(p:P.follows .mixedOrders=true)(r:JB ops=true)(d:Il ops a0.tmps.size=true)
    (quiet:∀(L:Nat->Bool) (val:Nat->Value) (a:Act) (i:Nat) (o:Oper),ops[i]?=some o->(∀e∈o.after.toList,Region.binds .any e=true->L e.on=true)->(∀j,L j=true->val j=kv j)->Ik ops o a0 a val ->
      Region.wanted o (yielded ops a.tmps)=true/\o.about P {w0 with drawn:=w0.drawn+1} a.eval=none/\(∀c,o.op≠.defer c)/\(execOp a.eval o).run P {w0 with drawn:=w0.drawn+1}=.ok (.value (kv i)) {w0 with drawn:=w0.drawn+1})
    (k:∀(L:Nat->Bool) (val:Nat->Value) (a:Act),(∀i,i<ops.size->L i=true)->(∀j,L j=true->val j=kv j)->Ups ops val a0 L a->Q .normal a {w0 with drawn:=w0.drawn+1}):(Code.region id ops true).wpIn F n P Q a0 w0:=
  FY (λ_=>true) kv (λ_ _ w=>w={w0 with drawn:=w0.drawn+1}) p r d (λ_ _ _ _ _ _ _ h=>h)
   (λL val a w i o m _ _ q g l f=>by subst f;exact quiet L val a i o m q (λj h=>g j h rfl) l)
   (λ_ _ _ _ _ _ _ h=>by cases h) rfl λL val a w b g s f=>by subst f;exact k L val a b (λj h=>g j h rfl) s
end
end
section
open Go.RowKit Go.Shelf
variable {g k:Nat}
structure Rw where
 e:TypeId
 z:Nat
 v:Value
 n:Nat
 cs:List Value
abbrev Rw.own(r:Rw)(W:World)(B:Nat):Prop:=W.ownsRow B r.e r.z r.v r.n r.cs
def ZA(a b:Rw):Prop:=∀g,a.v.ownBlock=some g->b.v.ownBlock≠some g
theorem ZA.symm{a b:Rw}(h:ZA a b):ZA b a:=λg d c=>h g c d
structure xU (W:World) (B:Nat) (rs:List Rw):Prop where
 own:∀r∈rs,r.own W B
 apart:rs.Pairwise ZA
section
variable {W W':World}{B:Nat}{rs pre post:List Rw}{r r':Rw}
theorem XY(h:r.own W B)(c:∀g,r.v.ownBlock=some g->W'.heap[g]?=W.heap[g]?):r.own W' B:=by
 obtain⟨d,a⟩:=h;refine⟨d,?_⟩;rcases a with a |⟨g,cap,b,e,q⟩
 .exact .inl a
 .exact .inr ⟨g,cap,b,e,q.1,(c g (by rw[e];rfl)).trans q.2.1,q.2.2⟩
theorem xU.keep(h:xU W B rs)(b:∀r∈rs,∀g,r.v.ownBlock=some g->W'.heap[g]?=W.heap[g]?):xU W' B rs:=⟨λr a=>XY (h.own r a) (b r a),h.apart⟩
theorem xU.lt(h:xU W B rs)(a:r∈rs){g:Nat}(b:r.v.ownBlock=some g):B<=g/\g<W.heap.size:=(h.own r a).lt g b
theorem xU.grows(h:xU W B rs)(c:∀b,b<W.heap.size->W'.heap[b]?=W.heap[b]?):xU W' B rs:=h.keep λ_ a g d=>c g (h.lt a d).2
theorem xU.mid(h:xU W B (pre++r::post)):∀s∈pre++post,ZA s r:=by
 obtain⟨_,c,b⟩:=List.pairwise_append.1 h.apart;obtain⟨b1,_⟩:=List.pairwise_cons.1 c;intro s a;rcases List.mem_append.1 a with a |a
 .exact b s a r (List.mem_cons_self ..)
 .exact(b1 s a).symm
theorem xU.swap(h:xU W B (pre++r::post))(m:W.grownBy W' r.v.ownBlock)(l:r'.own W' B)(n:∀g,r'.v.ownBlock=some g->r.v.ownBlock=some g\/W.heap.size<=g):xU W' B (pre++r'::post):=by
 obtain⟨w,u,q⟩:=List.pairwise_append.1 h.apart;obtain⟨b1,p⟩:=List.pairwise_cons.1 u;have b:∀s,s∈pre++post->s∈pre++r::post:=λs a=>by
  rcases List.mem_append.1 a with a |a
  .exact List.mem_append_left _ a
  .exact List.mem_append_right _ (List.mem_cons_of_mem _ a)
 have c:∀s∈pre++post,ZA s r':=λs a g j o=>by
  rcases n g o with e |e
  .exact h.mid s a g j e
  .have:=(h.lt (b s a) j).2;omega
 have i:∀s∈pre++post,s.own W' B:=λs a=>XY (h.own s (b s a)) λg d=>m.block g (h.lt (b s a) d).2 λe=>h.mid s a g d e.symm;refine⟨λs a=>?_,List.pairwise_append.2 ⟨w,List.pairwise_cons.2 ⟨λs a=>(c s (List.mem_append_right _ a)).symm,p⟩,λs a t f=>?_⟩⟩
 .rcases List.mem_append.1 a with a |a
  .exact i s (List.mem_append_left _ a)
  .rcases List.mem_cons.1 a with rfl |a
   .exact l
   .exact i s (List.mem_append_right _ a)
 .rcases List.mem_cons.1 f with rfl |f
  .exact c s (List.mem_append_left _ a)
  .exact q s a t (List.mem_cons_of_mem _ f)
theorem xU.append{P:Program}(h:xU W B (pre ++ r::post))(t:TypeId)(i:TypeInfo)(f:Value)(bytes:Nat)(E:P.underlying t=some (.slice r.e))(hi:P.info? r.e=some i)(D:i.zero=some f)
    (hsize:i.size=r.z)(q:i.bytes=bytes)(l:f.cells.size=r.z)(o:0<r.z){a:Addr}{m c:Nat}{news:List Value}(H:news.length=m*r.z)(hnews:∀j u,news[j]?=some u->W.cell? (a.add j)=some u)(J:∀u∈news,u.oneCell'=true)
    (G:r.n+m<=1000000)(I:bytes<=1000)(hbase:B<=W.heap.size) :
    ∃v' W',(Builtin.append_ #[t,t] t #[r.v,.slice (some a) m c]).run P W=.ok v' W'/\xU W' B (pre++⟨r.e,r.z,v',r.n+m,r.cs++news⟩::post)/\W.grownBy W' r.v.ownBlock/\v'.cells=#[v']/\v'.oneCell'=true/\(∀g,v'.ownBlock=some g->r.v.ownBlock=some g\/W.heap.size<=g):=by
  have F:=h.own r (List.mem_append_right _ (List.mem_cons_self ..));have b:r.n+m<=maxLen:=by
   have:maxLen=9223372036854775807:=δ
   omega
  obtain⟨v',W',C,x,s,_,A⟩:=run_append_own_at (P:=P) (w:=W) B t t r.e i f r.z bytes E hi D hsize q l o r.v r.n r.cs F a m c news H hnews J b (Nat.le_trans (Nat.mul_le_mul G I) δ) hbase;have y:∀g,v'.ownBlock=some g->r.v.ownBlock=some g\/W.heap.size<=g:=λg p=>by
   rcases A with e |e
   .exact .inl (e▸p)
   .rw[e]at p;cases p;exact .inr (qNr _)
  have d:v'.cells=#[v']/\v'.oneCell'=true:=by rcases x.2 with⟨rfl,_⟩ |⟨g,cap,c,rfl,_⟩<;>exact⟨rfl,rfl⟩
  exact⟨v',W',C,h.swap s x y,s,d.1,d.2,y⟩
theorem jw(W:World)(b k:Nat)(v:Value):W.grownBy (W.setCell ⟨b,k,none⟩ v) (some b):=
 ⟨rfl,rfl,rfl,(KeepsWalks.setCell W _ v).size,λj _ a=>Below.heap_setCell _ _ _ j (λe=>a (by rw[e]))⟩
theorem setCell_at{xs:Array Value}{e:TypeId}(v:Value)(c:W.heap[g]?=some (.cells xs e (0,0))):(W.setCell ⟨g,k,none⟩ v).heap[g]?=some (.cells (xs.setIfInBounds k v) e (0,0)):=by obtain⟨a,b⟩:=qAa.1 c;show(W.heap.modify g _)[g]?=_;rw[qAd (by rw[Array.size_modify];exact a),Array.getElem_modify_self,b];rfl
theorem xU.store(h:xU W B (pre++r::post))(a:r.v.ownBlock=some g)(q:k<r.n*r.z)(u:Value):xU (W.setCell ⟨g,k,none⟩ u) B (pre++⟨r.e,r.z,r.v,r.n,r.cs.set k u⟩::post):=by
 obtain⟨p,o⟩:=h.own r (List.mem_append_right _ (List.mem_cons_self ..));rcases o with⟨e,_⟩ |⟨c,cap,b,e,q1,l,j,i,f,d⟩
 .rw[e]at a;cases a
 .rw[e]at a;cases a;refine h.swap (by rw[e];exact jw W c k u) ⟨by rw[List.length_set];exact p,.inr ⟨c,cap,b.setIfInBounds k u,e,q1,setCell_at u l,j,i,by rw[Array.size_setIfInBounds];exact f,?_⟩⟩ λx m=>.inl m;rw[Array.toList_setIfInBounds,List.take_set,d]
theorem xU.aeJ(h:xU W B rs)(e:TypeId)(z:Nat):xU W B (rs++[⟨e,z,.slice none 0 0,0,[]⟩]):=by
 refine⟨λr c=>?_,List.pairwise_append.2 ⟨h.apart,List.pairwise_singleton _ _,λa _ b f g _ d=>?_⟩⟩
 .rcases List.mem_append.1 c with c |c
  .exact h.own r c
  .rw[List.mem_singleton.1 c];exact World.ownsRow_nil ..
 .rw[List.mem_singleton.1 f]at d;cases d
theorem own_ne{b:Nat}{c:Array Value}{t:TypeId}(h:r.own W B)(a:r.v.ownBlock=some g)(j:W.heap[b]?=some (.cells c t (0,0)))(i:r.e≠t):g≠b:=by
 rintro rfl;obtain⟨_,l⟩:=h;rcases l with⟨e,_⟩ |⟨m,cap,f,e,_,d,_⟩
 .rw[e]at a;cases a
 .rw[e]at a;cases a;rw[j]at d;exact i (Obj.cells.inj (Option.some.inj d)).2.1.symm
theorem PS{x:Value}(h:r.own W B)(a:r.v.ownBlock=some g)(b:r.cs[k]?=some x):W.cell? ⟨g,k,none⟩=some x:=by
 obtain⟨j,i⟩:=h;rcases i with⟨e,_⟩ |⟨p,cap,l,e,_,d,o,_,m,c⟩
 .rw[e]at a;cases a
 .rw[e]at a;cases a;have f:k<r.n*r.z:=by rw[<-j];exact(qLa.1 b).1
  rw[<-c,List.getElem?_take_of_lt f,Array.getElem?_toList]at b;simp[World.cell?,d,b]
theorem TW(h:r.own W B)(b:r.v.ownBlock=some g):∃a,W.heap[g]?=some (.cells a r.e (0,0))/\r.n*r.z<=a.size:=by
 rcases h.2 with⟨e,_⟩ |⟨i,cap,a,e,_,f,d,_,c,_⟩
 .rw[e]at b;cases b
 .rw[e]at b;cases b;exact⟨a,f,by rw[c];exact Nat.mul_le_mul_right _ d⟩
theorem TY(h:r.own W B)(b:0<r.n):∃g cap,r.v=.slice (some ⟨g,0,none⟩) r.n cap/\r.v.ownBlock=some g:=by
 rcases h.2 with⟨_,e⟩ |⟨g,cap,a,e,_⟩
 .omega
 .exact⟨g,cap,e,by rw[e];rfl⟩
theorem FZ(h:r.own W B):∃a cap,r.v=.slice a r.n cap:=by
 rcases h.2 with⟨e,b⟩ |⟨g,cap,c,e,_⟩
 .exact⟨none,0,by rw[e,b]⟩
 .exact⟨_,cap,e⟩
end
end
end Go.Skm.Prg
