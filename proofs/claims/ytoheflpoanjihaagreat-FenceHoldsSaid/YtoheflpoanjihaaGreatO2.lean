import Derived.Test.YtoheflpoanjihaaGreatM2
import Derived.Test.YtoheflpoanjihaaGreatPolyH
import Derived.Test.YtoheflpoanjihaaGreatEqv4
import Derived.Test.YtoheflpoanjihaaGreatG15
import Derived.Test.YtoheflpoanjihaaGreatSkmD
import Derived.Test.YtoheflpoanjihaaGreatN1
import Derived.Test.YtoheflpoanjihaaGreatG22
import Derived.Test.YtoheflpoanjihaaGreatG19
set_option linter.all false
namespace Go.Skm.Fen
open Go Go.Skm
section
def SC:List Int->List V3
 | x::y::r=>⟨x,y,0⟩::SC r
 | _=>[]
def encI(l:List Int):List PV:=l.map λn=>Ap n
theorem abY(l:List Int){i:Nat}(h:i<l.length):(encI l).getD i .nil=Ap (l.getD i 0):=by grind[encI]
theorem NJ(l:List V3):((bT l).drop 0).take (bT l).length=bT l:=by rw[qLy,List.take_length]
def YB(p:V3):Rt->List pG->Rt
 | b,[]=>b
 | b,e::r=>YB p (if(dist e.1 e.2 p).n*b.d-b.n*(dist e.1 e.2 p).d<0 then dist e.1 e.2 p else b) r
theorem ZX{p:V3}(hp:qY p):∀{c:List pG} {b:Rt},b.ok->(∀ e∈c,qY e.1/\qY e.2)->SB p b c=YB p b c
 |[],_,_,_=>rfl
 | e::r,b,hb,he=>by
  have hd:=ZT (he e (by simp)).1 (he e (by simp)).2 hp;unfold SB YB;by_cases h:(dist e.1 e.2 p).n*b.d-b.n*(dist e.1 e.2 p).d<0
  . rw[if_pos (.inr h),if_pos h];exact ZX hp hd λf a=>he f (by simp[a])
  . rw[if_neg (by rintro (h' | h')<;>contradiction),if_neg h];exact ZX hp hb λf a=>he f (by simp[a])
def VD(p:V3):List pG->Rt
 |[]=>⟨0,0⟩
 | e::r=>YB p (dist e.1 e.2 p) r
theorem VE{p:V3}(hp:qY p){a:List pG}(c:∀ e∈a,qY e.1/\qY e.2):SB p ⟨0,0⟩ a=VD p a:=by
 cases a with
 | nil=>rfl
 | cons e r =>unfold SB VD;have d:¬(⟨0,0⟩:Rt).ok:=λh=>absurd h.2.2 (by decide);rw[if_pos (.inl d)];exact ZX hp (ZT (c e (by simp)).1 (c e (by simp)).2 hp) λf b=>c f (by simp[b])
section
variable (X:Ext) (hX:Mine X)
include hX
theorem c14(x y z:Int):run tab X 14 [Ab x,Ab y,Ab z] []=some ([.p (cO ⟨x,y,z⟩)],[]):=aY (hX _ rfl) (by rw[e14];rfl)
theorem l37(n:List Int)(h:n.length<=1000000):∀(r:List Int) (i:Nat) (a:List V3),n.drop i=r->i<=n.length->a.length<=i ->
    L tab (run tab X) 37 [] [.lp [1,1,0,1,0]] (La (encI n) 0 a.length (i:Int) (bT a))=some ([.fresh true aU (bT (a++SC r))],[])
  |[],i,a,hr,hi,ho=>by
   have _:=hX;have c:n.length<=i:=List.drop_eq_nil_iff.1 hr;have b:(encI n).length=n.length:=by simp[encI]
   refine dU ?_;rw[QK,kG (by omega),b,O3 (by omega),qCf,show SC []=[] from rfl,List.append_nil,show a.length=(bT a).length by simp[bT],NJ]
  |[x],i,a,hr,hi,ho=>by
   have c:n.length=i+1:=by have:=congrArg List.length hr;grind
   have b:(encI n).length=n.length:=by simp[encI]
   refine dU ?_;rw[QK,kG (by omega),b,O3 (by omega),qCf,show SC [x]=[] from rfl,List.append_nil,show a.length=(bT a).length by simp[bT],NJ]
  | x::y::r,i,a,hr,hi,ho=>by
   have c:i+2<=n.length:=by have:=congrArg List.length hr;grind
   have b:(encI n).length=n.length:=by simp[encI]
   have k:n.getD i 0=x:=by rw[qLb,<- List.head?_drop,hr];rfl
   have d:n.drop (i+1)=y::r:=by rw[<- List.tail_drop,hr];rfl
   have f:n.drop (i+2)=r:=by rw[show i+2=i+1+1 from rfl,<- List.tail_drop,d];rfl
   have j:n.getD (i+1) 0=y:=by rw[qLb,<- List.head?_drop,d];rfl
   have g:IntKind.i64.wrap ((i:Int)+2)=((i+2:Nat):Int):=by rw[wrap_eq (by omega) (by omega)];omega
   refine dU ?_;rw[QK,kG (by omega),b,F6 (by omega),qCt,rng (by omega),qCt,le0,qBs,qCt,show F5 (a.length+1) 2147483648=true from decide_eq_true (by omega),qCt,g];rw[qIt,qIt,abY n (show i<n.length by omega),abY n (show i+1<n.length by omega),k,j];have e:=l37 n h r (i+2) (a++[⟨x,y,0⟩]) f (by omega) (by simp;omega);rw[qLp,List.length_singleton]at e;have l:((bT a).drop 0).take a.length=bT a:=by rw[show a.length=(bT a).length by simp[bT],NJ]
   rw[l,SC,show a++⟨x,y,0⟩::SC r=a++[⟨x,y,0⟩]++SC r by simp];simp_all[bT,cO]
theorem c37(n:List Int)(a:n.length<=1000000):run tab X 37 [.p (.list false [.int .i64] (encI n))] []=some ([.fresh true aU (bT (SC n))],[]):=
 aY (hX _ rfl) (by rw[e37];exact l37 X hX n a n 0 [] rfl (by omega) (by simp))
variable (hB:Bits X)
include hB
theorem c27(n d:Int)(c:-9223372036854775808<=n/\n<=9223372036854775807)(a:-9223372036854775808<=d/\d<=9223372036854775807):run tab X 27 [Ab n,Ab d] []=some ([.p (eR n d)],[]):=
 aY (hX _ rfl) (by
  have _:=hB;have e:∀ z:Int,-9223372036854775808<=z/\z<=9223372036854775807->nO z 1000000:=λz f=>by unfold nO;exact Nat.le_trans (Dig.sQ (b:=B9) (k:=3) (by decide) (Nat.lt_of_lt_of_le (show _<1000000000000000000000000000 by omega) (by decide))) (by decide)
  rw[e27,c71 X hX n c.1 c.2,qOb];simp only[qLh,bV,jg];rw[c70 X hX n (e n c),qOb,c71 X hX d a.1 a.2,qOb];simp only[qLh,bV,jg];rw[c70 X hX d (e d a),qOb];rfl)
end
end
section
variable {f:Fen}{x y:V3}
theorem af2(a:eX f=true)(b:Int)(x y:V3)(u:Rt):atT (jd f b) y x u=atT f x y ⟨u.d-u.n,u.d⟩:=by
 unfold atT;have q:∀ p q:Int,ji q p u=ji p q ⟨u.d-u.n,u.d⟩:=λp q=>by unfold ji;grind
 rw[aco a,q,q]
theorem ajl(g:eX f=true)(b:Int)(x y:V3):All (jd f b) y x↔All f x y:=by
 constructor
 . intro h u c;obtain⟨a,j,i⟩:=c;have k:=h ⟨u.d-u.n,u.d⟩ ⟨a,by show 0<=u.d-u.n;omega,by show u.d-u.n<=u.d;omega⟩;rw[af2 g]at k;have e:(⟨(⟨u.d-u.n,u.d⟩:Rt).d-(⟨u.d-u.n,u.d⟩:Rt).n,(⟨u.d-u.n,u.d⟩:Rt).d⟩:Rt)=u:=by obtain⟨n,d⟩:=u;show(⟨d-(d-n),d⟩:Rt)=⟨n,d⟩;rw[show d-(d-n)=n by omega]
   rw[e]at k;exact k
 . intro h u c;obtain⟨a,j,i⟩:=c;rw[af2 g];exact h _ ⟨a,by show 0<=u.d-u.n;omega,by show u.d-u.n<=u.d;omega⟩
theorem aen(c:eX f=true)(b:Int)(i:rF 1048576 x=true)(g:rF 1048576 y=true):vC (jd f b) y x=vC f x y:=by
 have j:=V4 c b;unfold vC;rw[if_pos c,if_pos j,if_pos i,if_pos g,if_pos i,if_pos g,JR c,JR c];cases kK f x with
 | false=>cases kK f y<;>rfl
 | true =>
  cases kK f y with
  | false=>rfl
  | true =>
   rw[if_pos rfl,if_pos rfl,if_pos rfl,if_pos rfl];by_cases a:x.x=y.x/\x.y=y.y
   . rw[if_pos a,if_pos ⟨a.1.symm,a.2.symm⟩]
   . have d:¬(y.x=x.x/\y.y=x.y):=λh=>a ⟨h.1.symm,h.2.symm⟩;rw[if_neg a,if_neg d];have e:zq (jd f b) y x (numsL (jd f b) y x)=zq f x y (numsL f x y):=by rw[Bool.eq_iff_iff,VU j (ug.1 g) (ug.1 i) d,VU c (ug.1 i) (ug.1 g) a];exact ajl c b x y
     rw[e]
theorem ajm(j:eX f=true)(i:rF 1048576 x=true)(g:rF 1048576 y=true)(h:(vC f x y).1=true):(f.low<=x.z/\x.z<=f.high)/\(f.low<=y.z/\y.z<=f.high)/\All f x y:=by
 unfold vC at h;rw[if_pos j,if_pos i,if_pos g]at h;have k:kK f x=true:=by
  cases e:kK f x with
  | true=>rfl
  | false=>rw[e]at h;cases h
 rw[if_pos k]at h;have c:kK f y=true:=by
  cases e:kK f y with
  | true=>rfl
  | false=>rw[e]at h;cases h
 rw[if_pos c]at h;have b:=k;unfold kK at b c;simp only[qBa,qDa]at b c;refine⟨b.1,c.1,?_⟩;by_cases a:x.x=y.x/\x.y=y.y
 . intro u l;have q:=QX f x.x x.y 1 l.1;unfold atT;have e:∀ p:Int,ji p p u=p*u.d:=λp=>by unfold ji;grind
   rw[<- a.1,<- a.2,e,e];rw[Int.one_mul]at q;rw[q];exact b.2
 . rw[if_neg a]at h;exact(VU j (ug.1 i) (ug.1 g) a).1 h
theorem acr(a:Int):low 0 1=⟨0,1⟩/\0<=a*a:=⟨rfl,by
 rcases Int.le_total 0 a with h | h
 . exact Int.mul_nonneg h h
 . exact Int.mul_nonneg_of_nonpos_of_nonpos h h⟩
theorem alJ{a b p:V3}(h:0<Et a b):0<=(dist a b p).n/\0<(dist a b p).d:=by
 have c:∀{p q:Int},0<=p->0<q->0<=(low p q).n/\0<(low p q).d:=λ{p q} hp g=>by have k:=GK p (b:=q) (by omega);have d:=yD (a:=p) (b:=q) (by omega);refine⟨?_,d⟩;refine Ij g ?_;show 0<=q*D5 p q;rw[Int.mul_comm,k];exact Int.mul_nonneg hp (by omega)
 have e:∀ u v:V3,0<=Et u v:=aiV;unfold dist;split
 . exact c (acr _).2 h
 . split
   . exact c (e b p) (by decide)
   . exact c (e a p) (by decide)
theorem NR{p:V3}:∀(j:List pG) (b:Rt),(∀ e∈j,0<=(dist e.1 e.2 p).n/\0<(dist e.1 e.2 p).d)->0<=b.n->0<b.d->(b=⟨0,1⟩\/∃ e∈j,dist e.1 e.2 p=⟨0,1⟩)->(∀ e∈j,Cn (dist e.1 e.2 p))->Cn b->YB p b j=⟨0,1⟩
 |[],b,_,_,_,h,_,_=>by
  rcases h with h |⟨e,l,_⟩
  . exact h
  . simp at l
 | e::r,b,hd,b0,b1,h,hc,cb=>by
  obtain⟨o,m⟩:=hd e (by simp);have k:=λc a=>hd c (List.mem_cons_of_mem _ a);have i:=λc a=>hc c (List.mem_cons_of_mem _ a);unfold YB;split
  . next g =>
    refine NR r _ k o m ?_ i (hc e (by simp));rcases h with h |⟨c,a,h'⟩
    . subst h;rw[Int.mul_one,Int.zero_mul]at g;omega
    . rcases List.mem_cons.1 a with rfl | a
      . exact .inl h'
      . exact .inr ⟨c,a,h'⟩
  . next g =>
    refine NR r _ k b0 b1 ?_ i cb;rcases h with h |⟨c,a,h'⟩
    . exact .inl h
    . rcases List.mem_cons.1 a with rfl | a
      . left;rw[h']at g;have g:¬(0*b.d-b.n*1<0):=g;exact ai1 cb alo.cn (by show b.n*1=0*b.d;omega)
      . exact .inr ⟨c,a,h'⟩
theorem ajn(a b:V3)(z:Int):dist a b ⟨a.x,a.y,z⟩=⟨0,1⟩\/Et a b<=0:=by
 have d:yQ a b ⟨a.x,a.y,z⟩=0:=by show(b.x-a.x)*(a.x-a.x)+(b.y-a.y)*(a.y-a.y)=0;rw[Int.sub_self,Int.sub_self,Int.mul_zero,Int.mul_zero];rfl
 have c:Et a ⟨a.x,a.y,z⟩=0:=by show(a.x-a.x)*(a.x-a.x)+(a.y-a.y)*(a.y-a.y)=0;rw[Int.sub_self,Int.sub_self];rfl
 by_cases h:Et a b<=0
 . exact .inr h
 . left;unfold dist;rw[d,if_neg (by omega),if_neg (by omega),c];exact(acr 0).1
theorem acs(g:eX f=true){e:pG}(b:e∈iD f)(z:Int)(i:rF 1048576 ⟨e.1.x,e.1.y,z⟩=true):JI f ⟨e.1.x,e.1.y,z⟩=(⟨0,1⟩,0):=by
 have hp:=aeg g;unfold JI;rw[if_pos g,if_pos i,VE (ug.1 i) (zn g)];have hd:∀ a∈iD f,0<=(dist a.1 a.2 ⟨e.1.x,e.1.y,z⟩).n/\0<(dist a.1 a.2 ⟨e.1.x,e.1.y,z⟩).d:=λa h=>alJ (hp a h);have j:∀ a∈iD f,Cn (dist a.1 a.2 ⟨e.1.x,e.1.y,z⟩):=λa h=>by
  unfold dist;split
  . exact ad6 (by have:=hp a h;omega)
  . split<;>exact ad6 (by decide)
 have k:dist e.1 e.2 ⟨e.1.x,e.1.y,z⟩=⟨0,1⟩:=(ajn e.1 e.2 z).resolve_right (by have:=hp e b;omega);generalize iD f=es at *;cases es with
 | nil=>simp at b
 | cons a r =>
  unfold VD;congr 1;refine NR r _ (λx c=>hd x (List.mem_cons_of_mem _ c)) (hd a (by simp)).1 (hd a (by simp)).2 ?_ (λx c=>j x (List.mem_cons_of_mem _ c)) (j a (by simp));rcases List.mem_cons.1 b with rfl | b
  . exact .inl k
  . exact .inr ⟨e,b,k⟩
theorem alK(c:eX f=true)(h:(f.low<=x.z/\x.z<=f.high)/\(f.low<=y.z/\y.z<=f.high)/\All f x y){p:Int}(hp:0<=p/\p<=100) :
    Vq f ⟨x.x*(100-p)+y.x*p,100⟩ ⟨x.y*(100-p)+y.y*p,100⟩ ⟨x.z*(100-p)+y.z*p,100⟩=true:=by
  have _:=c;obtain⟨b,a,d⟩:=h;have k:=d ⟨p,100⟩ ⟨show(0:Int)<100 by decide,hp.1,hp.2⟩;unfold Vq;have m:=Int.mul_le_mul_of_nonneg_right b.1 (show 0<=100-p by omega);have l:=Int.mul_le_mul_of_nonneg_right b.2 (show 0<=100-p by omega);have j:=Int.mul_le_mul_of_nonneg_right a.1 hp.1;have i:=Int.mul_le_mul_of_nonneg_right a.2 hp.1;have g:f.low*(100-p)+f.low*p=f.low*100:=by grind
  have e:f.high*(100-p)+f.high*p=f.high*100:=by grind
  rw[decide_eq_true (show f.low*100<=x.z*(100-p)+y.z*p by omega),decide_eq_true (show x.z*(100-p)+y.z*p<=f.high*100 by omega)];have q:∀ s t:Int,s*(100-p)+t*p=ji s t ⟨p,100⟩:=λs t=>by unfold ji;grind
  rw[q,q];exact(QX f _ _ 100 (k:=100) (by decide)).trans k
end
section
theorem ahg(x:Int){n:Int}(h:0<n):(x.tmod n+n).tmod n=x%n∧-n<x.tmod n/\x.tmod n<n:=by
 have b:=Int.emod_nonneg x (show n≠0 by omega);have a:=Int.emod_lt_of_pos x h;rcases Int.le_total 0 x with c | c
 . have e:x.tmod n=x%n:=Int.tmod_eq_emod_of_nonneg c;rw[e];refine⟨?_,by omega,by omega⟩;rw[Int.tmod_eq_emod_of_nonneg (by omega),Int.add_emod_right,Int.emod_emod_of_dvd _ (Int.dvd_refl n)]
 . have e:x.tmod n=-((-x) % n):=by rw[<- Int.tmod_eq_emod_of_nonneg (by omega:0<=-x),Int.neg_tmod,Int.neg_neg]
   have g:=Int.emod_nonneg (-x) (show n≠0 by omega);have f:=Int.emod_lt_of_pos (-x) h;rw[e];refine⟨?_,by omega,by omega⟩;rw[Int.tmod_eq_emod_of_nonneg (by omega)];have d:=Int.mul_ediv_add_emod (-x) n;have:-((-x)%n)+n=x+n*((-x) / n+1):=by rw[Int.mul_add];omega
   rw[this,Int.add_mul_emod_self_left]
abbrev w35:List Wy:=[.lp [1,1,0,1,0]]
section
variable (X:Ext) (hX:Mine X)
include hX
theorem l35(l:List V3)(b:Int)(v:l.length<=1000000)(w:-1000<=b/\b<=1000):∀(k i:Nat),i+k=l.length ->
    L tab (run tab X) 35 [] w35 (KZ (bT l) b 0 i (l.length:Int) (i:Int) (bT ((iJ l b).take i)))=some ([.p (.list true aU (bT (iJ l b)))],[]):=by
  have _:=hX;have a:=nP l b;intro k;induction k with
  | zero =>intro i j;refine dU ?_;rw[Yn,O3 (by omega),qCf,qLy,List.take_of_length_le (by simp[bT,a];omega),List.take_of_length_le (by omega)]
  | succ k h =>
   intro i j;have d:i<l.length:=by omega
   have c:=h (i+1) (by omega);obtain⟨e,u,t⟩:=ahg (b-(i:Int)) (n:=(l.length:Int)) (by omega);have g:=Int.emod_nonneg (b-(i:Int)) (show(l.length:Int)≠0 by omega);have f:=Int.emod_lt_of_pos (b-(i:Int)) (show(0:Int)<l.length by omega);have o:((bT l).length:Int)=(l.length:Int):=by simp[bT]
   have s:(bT (iJ l b)).take i++[cO (gt l (((b-(i:Int))%(l.length:Int)).toNat))]=(bT (iJ l b)).take (i+1):=by
    have m:i<(bT (iJ l b)).length:=by simp[bT,a];exact d
    rw[List.take_succ_eq_append_getElem m];congr 2;simp[bT,iJ]
   have r:(bT (iJ l b)).take (i+1)=bT ((iJ l b).take (i+1)):=by simp[bT]
   have q:(bT (iJ l b)).take i=bT ((iJ l b).take i):=by simp[bT]
   refine dU ?_
   rw[Yn,F6 d,qCt,o,show Je (l.length:Int) 0=false from decide_eq_false (by omega),qBf,qCt,qCt,
    wrap_eq (x:=b-(i:Int)) (by omega) (by omega),wrap_eq (x:=(b-(i:Int)).tmod (l.length:Int)+(l.length:Int)) (by omega) (by omega),e,
    show leI 0 ((b-(i:Int))%(l.length:Int))=true from decide_eq_true g,show cu ((b-(i:Int))%(l.length:Int)) (l.length:Int)=true from decide_eq_true f,qBs,qCt,
    show F5 (i+1) 2147483648=true from decide_eq_true (by omega),qCt,kG (by omega),qLy,List.take_of_length_le (by simp[bT,a];omega),JA,JB,QN]
   rw[<- r,<- s,q]at c;exact c
theorem c35(l:List V3)(b:Int)(a:l.length<=1000000)(c:-1000<=b/\b<=1000):run tab X 35 [.p (.list true aU (bT l)),Ab b] []=some ([.p (.list true aU (bT (iJ l b)))],[]):=
 aY (hX _ rfl) (by have:=l35 X hX l b a c l.length 0 (qNz _);rw[e35,show(bT l).length=l.length by simp[bT]];exact this)
theorem c36(d:Bits X)(s t p:Int)(b:-1048576<=s/\s<=1048576)(a:-1048576<=t/\t<=1048576)(hp:0<=p/\p<=100) :
    run tab X 36 [Ab s,Ab t,.p (.ref [Ap p])] []=some ([.p (eR (s*(100-p)+t*p) 100)],[]):=
  aY (hX _ rfl) (by
   have b1:∀ x q:Int,-1048576<=x->x<=1048576->0<=q->q<=100→-104857600<=x*q/\x*q<=104857600:=λx q f e c h4=>by have j:=Int.mul_le_mul_of_nonneg_right e c;have i:=Int.mul_le_mul_of_nonneg_right f c;constructor<;>omega
   have h:=b1 s (100-p) b.1 b.2 (by omega) (by omega);have g:=b1 t p a.1 a.2 hp.1 hp.2
   rw[e36,wrap_eq (x:=100-p) (by omega) (by omega),wrap_eq (x:=s*(100-p)) (by omega) (by omega),wrap_eq (x:=t*p) (by omega) (by omega),wrap_eq (x:=s*(100-p)+t*p) (by omega) (by omega),
    c27 X hX d _ _ (by omega) (by decide)]
   rfl)
end
end
section
def kO:List V3:=[⟨0,0,0⟩,⟨10,0,0⟩,⟨10,10,0⟩,⟨0,10,0⟩]
def kH:List V3:=[⟨4,4,0⟩,⟨4,6,0⟩,⟨6,6,0⟩,⟨6,4,0⟩]
def kF:Fen:=⟨kO,[kH],1,5⟩
theorem kn1:gG [⟨0,0,0⟩,⟨2,0,0⟩,⟨0,2,0⟩,⟨2,2,0⟩]=false:=by decide +kernel
theorem kn2:gG [⟨0,0,0⟩,⟨1,0,0⟩,⟨2,0,0⟩]=false:=by decide +kernel
theorem kn3:gG [⟨0,0,0⟩,⟨1,0,0⟩,⟨2,0,0⟩,⟨0,2,0⟩]=true:=by decide +kernel
theorem knV:eX kF=true:=by decide +kernel
theorem knA:JH kF=(192,0):=by decide +kernel
theorem au2:QO kF ⟨4,5,3⟩=(true,0):=by decide +kernel
theorem au3:QO kF ⟨10,10,5⟩=(true,0):=by decide +kernel
theorem au4:QO kF ⟨5,5,3⟩=(false,0):=by decide +kernel
theorem au5:QO kF ⟨2,2,6⟩=(false,0):=by decide +kernel
theorem au6:Vq kF ⟨9,2⟩ ⟨9,2⟩ ⟨3,1⟩=false:=by decide +kernel
theorem au7:Vq kF ⟨9,2⟩ ⟨4,1⟩ ⟨3,1⟩=true:=by decide +kernel
theorem au8:vC kF ⟨1,1,2⟩ ⟨9,1,4⟩=(true,0):=by decide +kernel
theorem au9:vC kF ⟨1,5,2⟩ ⟨9,5,2⟩=(false,0):=by decide +kernel
theorem ava:vC kF ⟨4,0,1⟩ ⟨4,10,1⟩=(true,0):=by decide +kernel
theorem avb:vC kF ⟨3,3,3⟩ ⟨7,7,3⟩=(false,0):=by decide +kernel
theorem knE:iD kF=[(⟨0,0,0⟩,⟨10,0,0⟩),(⟨10,0,0⟩,⟨10,10,0⟩),(⟨10,10,0⟩,⟨0,10,0⟩),(⟨0,10,0⟩,⟨0,0,0⟩),(⟨4,4,0⟩,⟨4,6,0⟩),(⟨4,6,0⟩,⟨6,6,0⟩),(⟨6,6,0⟩,⟨6,4,0⟩),(⟨6,4,0⟩,⟨4,4,0⟩)]:=by decide +kernel
theorem avc:VD ⟨3,3,0⟩ (iD kF)=⟨2,1⟩:=by decide +kernel
theorem avd:VD ⟨20,5,0⟩ (iD kF)=⟨100,1⟩:=by decide +kernel
theorem ave:VD ⟨5,5,0⟩ (iD kF)=⟨1,1⟩:=by decide +kernel
end
section
variable {d n:Int}
theorem uN:sS kF:=⟨by decide,by decide,by decide⟩
theorem YC(a:n.natAbs<bH)(hd:d.natAbs<bH)(h:0<d):(⟨n,d⟩:Rt).ok:=⟨zl a,zl hd,h⟩
theorem JL(a:n.natAbs<bH)(hd:d.natAbs<bH):yA ⟨n,d⟩=false:=by have c:bl n.natAbs<=64:=JC a;have b:bl d.natAbs<=64:=JC hd;exact decide_eq_false (by show ¬(8192<bl n.natAbs\/8192<bl d.natAbs);omega)
theorem avf:atP kF ⟨9,2⟩ ⟨9,2⟩ ⟨3,1⟩=(false,0):=by unfold atP;rw[if_pos ⟨YC (by decide) (by decide) (by decide),YC (by decide) (by decide) (by decide),YC (by decide) (by decide) (by decide)⟩,if_pos knV,JL (by decide) (by decide),JL (by decide) (by decide),au6];rfl
theorem avg:atP kF ⟨9,2⟩ ⟨4,1⟩ ⟨3,1⟩=(true,0):=by unfold atP;rw[if_pos ⟨YC (by decide) (by decide) (by decide),YC (by decide) (by decide) (by decide),YC (by decide) (by decide) (by decide)⟩,if_pos knV,JL (by decide) (by decide),JL (by decide) (by decide),JL (by decide) (by decide),au7];rfl
theorem VF(p:V3)(h:rF 1048576 p=true):JI kF p=(VD p (iD kF),0):=by unfold JI;rw[if_pos knV,if_pos h,VE (ug.1 h) (zn knV)]
abbrev w11:List Wy:=[.lp [1,1,1,1,1,0,1,0]]
abbrev v11(ys:List PV):List Wy:=[.rg [1,1,1,1,1,1,1,1,1,1,1,1,1,1,1,1,0,1,0] [(true,aU),(true,aU)] ys]
abbrev A11(i:Int):St:=CQ (bT kO) (dG [kH]) 1 5 0 4 4 i false (bT [⟨4,5,3⟩,⟨10,10,5⟩,⟨5,5,3⟩,⟨2,2,6⟩])
abbrev B11(n:Int):St:=gX (bT kO) (dG [kH]) 1 5 (bT kO) (dG [kH]) 1 5 false n
section
variable (X:Ext) (hX:Mine X)
include hX
variable (hB:Bits X) (hE:OE X) (hS:Sorts X)
include hB hE
theorem n11:L tab (run tab X) 11 [] (v11 []) (B11 8)=some ([Ac true],[]):=by have c:=c32 X hX hB hE kF uN ⟨3,3,0⟩;have b:=c32 X hX hB hE kF uN ⟨20,5,0⟩;have a:=c32 X hX hB hE kF uN ⟨5,5,0⟩;rw[VF _ (by decide),avc]at c;rw[VF _ (by decide),avd]at b;rw[VF _ (by decide),ave]at a;have g:=c27 X hX hB 2 1 (by decide) (by decide);have f:=c27 X hX hB 100 1 (by decide) (by decide);have e:=c27 X hX hB 1 1 (by decide) (by decide);rw[CS,c14 X hX,qOb];show(run tab X 32 [.p (kZ kF),.p (cO ⟨3,3,0⟩)] []).bind _=_;rw[c,qOb,c14 X hX,qOb];show(run tab X 32 [.p (kZ kF),.p (cO ⟨20,5,0⟩)] []).bind _=_;rw[b,qOb,c14 X hX,qOb];show(run tab X 32 [.p (kZ kF),.p (cO ⟨5,5,0⟩)] []).bind _=_;rw[a,qOb,show((8:Int)==8)=true from rfl,qCt,g,qOb];simp only[qLh,List.tail_cons,bV,toInt_int];rw[show eR 2 1=uG ⟨2,1⟩ from rfl,Zx,decide_eq_true rfl,qCt,show((0:Int)==0)=true from rfl,qCt,f,qOb];simp only[qLh,List.tail_cons,bV,toInt_int];rw[show eR 100 1=uG ⟨100,1⟩ from rfl,Zx,decide_eq_true rfl,qCt,qCt,e,qOb];simp only[qLh,List.tail_cons,bV,toInt_int];rw[show eR 1 1=uG ⟨1,1⟩ from rfl,Zx,decide_eq_true rfl,qCt]
theorem s11(n:Int)(a b:V3)(ys:List PV)(c:Option (List AV × List bZ))(j:0<=n/\n<=7)(i:n=0->a=⟨0,0,0⟩/\b=⟨10,0,0⟩)(h4:n=4->a=⟨4,4,0⟩/\b=⟨4,6,0⟩)
    (h:L tab (run tab X) 11 [] (v11 ys) (B11 (n+1))=c):L tab (run tab X) 11 [] (v11 (eY (a,b)::ys)) (B11 n)=c:=by
  have _:=hB;have _:=hE;have f:IntKind.i64.wrap (n+1)=n+1:=wrap_eq (by omega) (by omega);show L tab (run tab X) 11 [] (v11 (.agg [.agg [Ap a.x,Ap a.y,Ap a.z],.agg [Ap b.x,Ap b.y,Ap b.z]]::ys)) (B11 n)=c;have g:mg n 7=false:=decide_eq_false (by omega);rw[Bq];by_cases e:n=0
  . obtain⟨rfl,rfl⟩:=i e;subst e;rw[show((0:Int)==0)=true from rfl,qCt,c14 X hX,qOb,c14 X hX,qOb,f];exact h
  . rw[show(n==0)=false from beq_eq_false_iff_ne.2 e,qCf];by_cases c4:n=4
    . obtain⟨rfl,rfl⟩:=h4 c4;subst c4;rw[show((4:Int)==4)=true from rfl,qCt,c14 X hX,qOb,c14 X hX,qOb,f];exact h
    grind
theorem m11:L tab (run tab X) 11 [] (v11 ((vg kF).map eY)) (B11 0)=some ([Ac true],[]):=by
 have e:vg kF=iD kF:=by unfold vg;rw[if_pos knV]
 rw[e,knE];simp only[List.map_cons,List.map_nil];refine s11 X hX hB hE 0 _ _ _ _ (by omega) (λ_=>⟨rfl,rfl⟩) (λh=>by omega) ?_;refine s11 X hX hB hE 1 _ _ _ _ (by omega) (λh=>by omega) (λh=>by omega) ?_;refine s11 X hX hB hE 2 _ _ _ _ (by omega) (λh=>by omega) (λh=>by omega) ?_;refine s11 X hX hB hE 3 _ _ _ _ (by omega) (λh=>by omega) (λh=>by omega) ?_;refine s11 X hX hB hE 4 _ _ _ _ (by omega) (λh=>by omega) (λ_=>⟨rfl,rfl⟩) ?_;refine s11 X hX hB hE 5 _ _ _ _ (by omega) (λh=>by omega) (λh=>by omega) ?_;refine s11 X hX hB hE 6 _ _ _ _ (by omega) (λh=>by omega) (λh=>by omega) ?_;refine s11 X hX hB hE 7 _ _ _ _ (by omega) (λh=>by omega) (λh=>by omega) ?_;exact n11 X hX hB hE
include hS
theorem z11:L tab (run tab X) 11 [] w11 (A11 4)=some ([Ac true],[]):=by have l:=c24 X hX hB kF uN ⟨9,2⟩ ⟨9,2⟩ ⟨3,1⟩;have k:=c24 X hX hB kF uN ⟨9,2⟩ ⟨4,1⟩ ⟨3,1⟩;rw[avf]at l;rw[avg]at k;have b1:=c28 X hX hB hE hS kF uN ⟨1,1,2⟩ ⟨9,1,4⟩;have j:=c28 X hX hB hE hS kF uN ⟨1,5,2⟩ ⟨9,5,2⟩;have i:=c28 X hX hB hE hS kF uN ⟨4,0,1⟩ ⟨4,10,1⟩;have h:=c28 X hX hB hE hS kF uN ⟨3,3,3⟩ ⟨7,7,3⟩;rw[au8]at b1;rw[au9]at j;rw[ava]at i;rw[avb]at h;have g:=c31 X hX kF;have f:=hE.e kF uN;have a:=c27 X hX hB 9 2 (by decide) (by decide);have b:=c27 X hX hB 4 1 (by decide) (by decide);have c:=c27 X hX hB 3 1 (by decide) (by decide);refine dU ?_;rw[OZ,show cu (4:Int) 4=false from rfl,qCf];rw[a,qOb,qOb,c,qOb];show(run tab X 24 [.p (kZ kF),.p (uG ⟨9,2⟩),.p (uG ⟨9,2⟩),.p (uG ⟨3,1⟩)] []).bind _=_;rw[l,qOb,b,qOb,qOb,qOb];show(run tab X 24 [.p (kZ kF),.p (uG ⟨9,2⟩),.p (uG ⟨4,1⟩),.p (uG ⟨3,1⟩)] []).bind _=_;rw[k,qOb,c14 X hX,qOb,c14 X hX,qOb];show(run tab X 28 [.p (kZ kF),.p (cO ⟨1,1,2⟩),.p (cO ⟨9,1,4⟩)] []).bind _=_;rw[b1,qOb,c14 X hX,qOb,c14 X hX,qOb];show(run tab X 28 [.p (kZ kF),.p (cO ⟨1,5,2⟩),.p (cO ⟨9,5,2⟩)] []).bind _=_;rw[j,qOb,c14 X hX,qOb,c14 X hX,qOb];show(run tab X 28 [.p (kZ kF),.p (cO ⟨4,0,1⟩),.p (cO ⟨4,10,1⟩)] []).bind _=_;rw[i,qOb,c14 X hX,qOb,c14 X hX,qOb];show(run tab X 28 [.p (kZ kF),.p (cO ⟨3,3,3⟩),.p (cO ⟨7,7,3⟩)] []).bind _=_;rw[h,qOb];show(run tab X 31 [.p (kZ kF)] []).bind _=_;rw[g,qOb];show(run tab X 87 [.yL,.p (.ref (I4 kF))] [.log true []]).bind _=_;rw[f,qOb];exact m11 X hX hB hE
theorem p11(i:Nat)(f:i<4)(p:V3)(hp:(bT [⟨4,5,3⟩,⟨10,10,5⟩,⟨5,5,3⟩,⟨2,2,6⟩]).getD i .nil=cO p)(b:QO kF p=(decide (i<2),0))(h:L tab (run tab X) 11 [] w11 (A11 ((i+1:Nat):Int))=some ([Ac true],[])):L tab (run tab X) 11 [] w11 (A11 (i:Int))=some ([Ac true],[]):=by have _:=hB;have _:=hE;have _:=hS;have a:=c20 X hX kF uN p;rw[b]at a;have e:cu (i:Int) 4=true:=decide_eq_true (by omega);have c:cu (i:Int) ((4:Nat):Int)=true:=decide_eq_true (by omega);have g:cu (i:Int) 2=decide (i<2):=decide_eq_decide.2 (by omega);refine dU ?_;rw[OZ,e,qCt,le0,c];simp only[qBs,qCt,qIt,qNz,hp,kG (show i<=9000000000000000000 by omega)];show(run tab X 20 [.p (kZ kF),.p (cO p)] []).bind _=_;rw[a,qOb];unfold ND;simp only[qLh,List.tail_cons,bV,toInt_int,bf];grind
theorem c11:run tab X 11 [] []=some ([Ac true],[]):=
 aY (hX _ rfl) (by have i:=c37 X hX [0,0,2,0,0,2,2,2] (by decide);have h:=c37 X hX [0,0,1,0,2,0] (by decide);have g:=c37 X hX [0,0,1,0,2,0,0,2] (by decide);have f:=c37 X hX [0,0,10,0,10,10,0,10] (by decide);have e:=c37 X hX [4,4,4,6,6,6,6,4] (by decide);have c:=c12 X hX [⟨0,0,0⟩,⟨2,0,0⟩,⟨0,2,0⟩,⟨2,2,0⟩] (by decide);have s2:=c12 X hX [⟨0,0,0⟩,⟨1,0,0⟩,⟨2,0,0⟩] (by decide);have b:=c12 X hX [⟨0,0,0⟩,⟨1,0,0⟩,⟨2,0,0⟩,⟨0,2,0⟩] (by decide);rw[kn1]at c;rw[kn2]at s2;rw[kn3]at b;have a:=c16 X hX kF uN;rw[knA]at a;have v:=c18 X hX kF uN;rw[knV]at v;rw[e11];show(run tab X 37 [.p (.list false [.int .i64] (encI [0,0,2,0,0,2,2,2]))] []).bind _=_;rw[i,qOb];show(run tab X 12 [.p (.list true aU (bT [⟨0,0,0⟩,⟨2,0,0⟩,⟨0,2,0⟩,⟨2,2,0⟩]))] []).bind _=_;rw[c,qOb];simp only[qLh,bV,bf,qCf];show(run tab X 37 [.p (.list false [.int .i64] (encI [0,0,1,0,2,0]))] []).bind _=_;rw[h,qOb];show(run tab X 12 [.p (.list true aU (bT [⟨0,0,0⟩,⟨1,0,0⟩,⟨2,0,0⟩]))] []).bind _=_;rw[s2,qOb];simp only[qLh,bV,bf,qCf];show(run tab X 37 [.p (.list false [.int .i64] (encI [0,0,1,0,2,0,0,2]))] []).bind _=_;rw[g,qOb];show(run tab X 12 [.p (.list true aU (bT [⟨0,0,0⟩,⟨1,0,0⟩,⟨2,0,0⟩,⟨0,2,0⟩]))] []).bind _=_;rw[b,qOb];simp only[qLh,bV,bf,qBt,qCf];show(run tab X 37 [.p (.list false [.int .i64] (encI [0,0,10,0,10,10,0,10]))] []).bind _=_;rw[f,qOb];show(run tab X 37 [.p (.list false [.int .i64] (encI [4,4,4,6,6,6,6,4]))] []).bind _=_;rw[e,qOb];show(run tab X 16 [.p (kZ kF)] []).bind _=_;rw[a,qOb];simp only[qLh,List.tail_cons,bV,toInt_int];rw[show((192:Int) != 192)=false from rfl,qCf,show((0:Int) != 0)=false from rfl,qCf];show(run tab X 18 [.p (kZ kF)] []).bind _=_;rw[v,qOb];simp only[qLh,bV,bf,qBt,qCf];rw[c14 X hX,qOb,c14 X hX,qOb,c14 X hX,qOb,c14 X hX,qOb];show L tab (run tab X) 11 [] w11 (A11 ((0:Nat):Int))=_;refine p11 X hX hB hE hS 0 (by decide) ⟨4,5,3⟩ rfl au2 ?_;refine p11 X hX hB hE hS 1 (by decide) ⟨10,10,5⟩ rfl au3 ?_;refine p11 X hX hB hE hS 2 (by decide) ⟨5,5,3⟩ rfl au4 ?_;refine p11 X hX hB hE hS 3 (by decide) ⟨2,2,6⟩ rfl au5 ?_;exact z11 X hX hB hE hS)
end
end
section
variable {x:PV}{v:Value}
section
variable {P:Program} {w:World} {M:Nat->Prop}
theorem Zo{a:Bool}{ks:List Kd}(h:VR w M x v)(g:kindOk (.slice a ks) x=true)(d:x.wf):∃ xs,x=.list a ks xs/\(∀ y∈xs,bY a ks y=true)/\xs.length<=9223372036854775807/\PV.wfs xs/\∀ y∈xs,∀(j:Nat) (c:PV),y.cells[j]?=some c->∃ u,VR w M c u:=by
 cases x<;>simp only[kindOk,Bool.false_eq_true]at g
 . rename_i a' k xs;simp only[qBa,beq_iff_eq]at g;obtain⟨rfl,e⟩:=g;have e:=Kd.uD _ _ e;subst e;simp only[PV.wf]at d;refine⟨xs,rfl,?_,d.1,d.2,?_⟩
   . cases h with
     | list _ _ _ b o cap f _ _ _ _ m=>exact m
     | wW _ _ base cap=>simp
   . cases h with
     | list _ _ _ b o cap f _ _ _ n _ =>intro y l j c q;obtain⟨i,p⟩:=List.getElem?_of_mem l;grind
     | wW _ _ base cap=>simp
 . exact d.elim
theorem aii(h:kindOk (.int .i64) x=true):∃ n:Int,x=Ap n:=by cases x<;>simp[kindOk]at h;simp_all
structure amY (f:Fen):Prop where
 low:-9223372036854775808<=f.low/\f.low<=9223372036854775807
 high:-9223372036854775808<=f.high/\f.high<=9223372036854775807
 holes:f.holes.length<=9223372036854775807
 each:∀ h∈f.holes,h.length<=9223372036854775807
 outer:f.outer.length<=9223372036854775807
theorem abl:∀{xs:List PV},(∀ x∈xs,bY false [.slice true aU] x=true)->PV.wfs xs->(∀ x∈xs,∀(j:Nat) (c:PV),x.cells[j]?=some c->∃ u,VR w M c u)->∃ b:List (List V3),xs=dG b/\∀ h∈b,h.length<=9223372036854775807
 |[],_,_,_=>⟨[],rfl,by simp⟩
 | x::xs,h,hw,hv=>by
  have d:kindOk (.slice true aU) x=true:=by simpa[bY] using h x (by simp)
  have f:x.cells[0]?=some x:=by cases x<;>first | rfl | simp[kindOk]at d
  obtain⟨u,e⟩:=hv x (by simp) 0 x f;obtain⟨ys,rfl,i,m,g,_⟩:=Zo e d hw.1;obtain⟨l,rfl,_⟩:=Zp i g;obtain⟨b,rfl,k⟩:=abl (λy a=>h y (by simp[a])) hw.2 (λy a=>hv y (by simp[a]));refine⟨l::b,rfl,λy a=>?_⟩;rcases List.mem_cons.1 a with rfl | a;all_goals simp_all
theorem agy{t:TypeId}(B:dO P 8 t=(true,[.slice true aU,.slice false [.slice true aU],.int .i64,.int .i64]))(h:VR w M x v)(e:bY (dO P 8 t).1 (dO P 8 t).2 x=true)(i:x.wf):∃ f:Fen,x=kZ f/\amY f:=by
 rw[B]at e;cases x<;>simp only[bY,Bool.false_eq_true]at e;rename_i cs;have g:∀(j:Nat) (c:PV),cs[j]?=some c->∃ u,VR w M c u:=λj c o=>by
  cases h with
  | agg _ vs O r n=>exact⟨_,n j c o⟩
 match cs,e,i,g with
 |[a,b,c,d],e,i,g =>simp only[gV,Bool.and_true,qBa]at e;obtain⟨E,D,o,hd⟩:=e;simp only[PV.wf,PV.wfs,and_true]at i;obtain⟨A,z,y,s⟩:=i;obtain⟨N,m⟩:=g 0 a rfl;obtain⟨L,k⟩:=g 1 b rfl;obtain⟨xs,rfl,K,J,I,_⟩:=Zo m E A;obtain⟨ys,rfl,b1,H,G,F⟩:=Zo k D z;obtain⟨p,rfl⟩:=aii o;obtain⟨q,rfl⟩:=aii hd;obtain⟨l,rfl,_⟩:=Zp K I;obtain⟨C,rfl,r⟩:=abl b1 G F;exact⟨⟨l,C,p,q⟩,rfl,wf_i64.1 y,wf_i64.1 s,by simpa[dL] using H,r,by simpa using J⟩
 |[],h,_,_=>simp[gV]at h
 |[_],h,_,_=>simp[gV]at h
 |[_,_],h,_,_=>simp[gV]at h
 |[_,_,_],h,_,_=>simp[gV]at h
 | _::_::_::_::_::_,h,_,_=>simp[gV]at h
end
end
section
def aah(f:Fen):Bool:=(f.holes.all λh=>decide (h.length<=10))&&(decide (f.outer.length<=10)&&(decide (f.holes.length<=4)||decide (f.holes.length=17)))
theorem ace{f:Fen}(h:aah f=true):sS f/\f.holes.length<=17:=by unfold aah at h;simp only[qBa,Bool.or_eq_true,qDa,List.all_eq_true]at h;obtain⟨b,d,c⟩:=h;exact⟨⟨by omega,λx a=>by have:=b x a;omega,by omega⟩,by omega⟩
section
variable (X:Ext) (hX:Mine X)
include hX
theorem l15(d:List V3)(l k:Int)(a:List (List V3))(m:a.length<=9223372036854775807):∀(r:List (List V3)) (i:Nat),a.drop i=r->i<=a.length ->
    L tab (run tab X) 15 [] [.lp [1,0,1,0]] (O1 (dG a) (a.length:Int) (i:Int) (bT d) (dG a) l k)=some ([Ac ((r.all λh=>decide (h.length<=10))&&(decide (d.length<=10)&&(decide (a.length<=4)||decide (a.length=17))))],[]):=by
  have _:=hX;intro r;induction r with
  | nil =>
   intro i hd b;have e:i=a.length:=Nat.le_antisymm b (List.drop_eq_nil_iff.1 hd);subst e;refine dU ?_;rw[abE,O3 (by omega),qCf,lY,dL];have p:leI ((d.length:Nat):Int) 10=decide (d.length<=10):=decide_eq_decide.2 (by omega);have o:leI ((a.length:Nat):Int) 4=decide (a.length<=4):=decide_eq_decide.2 (by omega);have n:(((a.length:Nat):Int)==17)=decide (a.length=17):=by grind
   grind
  | cons h r g =>
   intro i hd _;have f:a[i]?=some h:=by have:=congrArg (·[0]?) hd;grind
   have b:=(qLa.1 f).1;have j:gh a i=h:=by simp[gh,List.getD,f]
   refine dU ?_;rw[abE,F6 b,qCt,dL];simp only[rng b,qCt,qIt,kX a b,j];show(bif mg ((((bT h).length:Nat)):Int) 10 then _ else _)=_;rw[lY,List.all_cons];by_cases c:h.length<=10
   . rw[show mg ((h.length:Nat):Int) 10=false from decide_eq_false (by omega),qCf,decide_eq_true c,Bool.true_and,wrap_eq (by omega) (by omega)];exact g (i+1) (by rw[<- List.drop_drop,hd];rfl) b
   grind
theorem c15(f:Fen)(a:amY f):run tab X 15 [.p (kZ f)] []=some ([Ac (aah f)],[]):=
 aY (hX _ rfl) (by rw[kZ,e15,dL];exact l15 X hX f.outer f.low f.high f.holes a.holes f.holes 0 qLy (Nat.zero_le _))
variable (hB:Bits X) (hE:OE X) (hS:Sorts X)
include hB hE hS
end
end
section
open Go.Skm.Dig
theorem aly(a:ByteArray):(a==a)=true:=(ai0 a a).2 rfl
section
variable (X:Ext) (hX:Mine X)
include hX
variable (hB:Bits X) (hE:OE X) (hS:Sorts X)
include hB hE hS
end
end
section
variable {f:Fen}{e:pG}
theorem aeo(h:eX f=true):f.holes.length<=16∧-1048576<=f.low/\f.high<=1048576/\f.low<=f.high:=by unfold eX Jz at h;simp only[qBa,qDa]at h;exact h.1.2
theorem alL(a:eX f=true)(b:e∈iD f){z:Int}(h:z=f.low\/z=f.high) :
    QO f ⟨e.1.x,e.1.y,z⟩=(true,0)/\JI f ⟨e.1.x,e.1.y,z⟩=(⟨0,1⟩,0):=by
  obtain⟨_,i,g,d⟩:=aeo a;have hp:=(zn a e b).1;have c:rF 1048576 ⟨e.1.x,e.1.y,z⟩=true:=by rw[Le];have:=hp.1;have:=hp.2;refine⟨?_,?_,?_⟩<;>rcases h with rfl | rfl<;>simp<;>omega
  refine⟨?_,acs a b z c⟩;unfold QO kK;rw[if_pos a,if_pos c,alI a b,decide_eq_true (show f.low<=z by omega),decide_eq_true (show z<=f.high by omega)];rfl
theorem apR(C:aH)(F G:List PV)(lo c x y:Int)(l:List PV)(b a:Option (List AV × List bZ)):agW C F G lo c 0 2 2 2 x y l b a=a:=rfl
section
variable (X:Ext) (hX:Mine X) (hB:Bits X) (hE:OE X) (hS:Sorts X)
include hX hB hE hS
theorem avD(f:Fen)(j:sS f)(n:eX f=true)(p:e∈iD f)(h m:Option (List AV × List bZ)){i:Nat}(o:i<2) :
    agW (run tab X) (bT f.outer) (dG f.holes) f.low f.high 0 2 2 (i:Int) e.1.x e.1.y [Ap f.low,Ap f.high] h m=h:=by
  have _:=hE;have _:=hS;obtain⟨z,q,c⟩:∃ z,(([Ap f.low,Ap f.high].getD (0+(i:Int).toNat) .nil).cell 0).toInt=z/\(z=f.low\/z=f.high):=by
   match i,o with
   | 0,_=>exact⟨_,rfl,.inl rfl⟩
   | 1,_=>exact⟨_,rfl,.inr rfl⟩
  obtain⟨l,k⟩:=alL n p c;have g:=c14 X hX e.1.x e.1.y z;have b:=c20 X hX f j ⟨e.1.x,e.1.y,z⟩;have a:=c32 X hX hB hE f j ⟨e.1.x,e.1.y,z⟩;have d:=c27 X hX hB 0 1 (by decide) (by decide);rw[l]at b;rw[k]at a;rw[kZ]at b a;unfold agW;rw[show cu (i:Int) 2=true from decide_eq_true (by omega),qCt,show leI 0 (i:Int)=true from decide_eq_true (by omega),show cu (i:Int) ((2:Nat):Int)=true from decide_eq_true (by omega),qBs,qCt,q,g,qOb];simp only[qLh,bV,Nw];rw[b,qOb,qOb];simp only[qLh,bV,Nw];rw[a,qOb,d,qOb];simp[ND,show uG ⟨0,1⟩=eR 0 1 from rfl,AV.pv,PV.toBool,PV.toInt,aly]
end
end
end Go.Skm.Fen
