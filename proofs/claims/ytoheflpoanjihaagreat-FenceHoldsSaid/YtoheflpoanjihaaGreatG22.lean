import Derived.Test.YtoheflpoanjihaaGreatG19
import Derived.Test.YtoheflpoanjihaaGreatEqd
set_option linter.all false
namespace Go.Skm.Fen
open Go Go.Skm
section
theorem Nw(v:V3):PV.agg [Ap (((cO v).cell 0).toInt),Ap (((cO v).cell 1).toInt),Ap (((cO v).cell 2).toInt)]=cO v:=rfl
theorem aiP(l:List V3)(i:Nat)(v:V3):(bT l).set i (cO v)=bT (l.set i v):=by simp[bT,List.map_set]
theorem Yq(l:List V3){i:Nat}(h:i<l.length):(bT l).getD i .nil=cO (gt l i):=by grind[bT]
theorem agZ(a b:V3)(p m q:List V3):((p++a::m++b::q).set p.length b).set (p.length+1+m.length) a=p++b::m++a::q:=by grind
section
variable (X:Ext) (hX:Mine X)
include hX
theorem l89(o n:Nat)(b0:List PV)(C:o+n<=1000000):∀(k:Nat) (m:List V3),m.length=k->∀(p q:List V3),p.length+q.length+m.length=o+n->p.length+m.length<=o+n->o<=p.length->q.length+o=p.length ->
    L tab (run tab X) 89 [.arr true aU b0] [.lp [1,0]] (Zz o n ((p.length-o:Nat):Int) ((p.length-o+m.length:Nat)-1:Int) (bT (p++m++q)))=some ([],[.arr true aU (bT (p++m.reverse++q))]):=by
  have _:=hX;intro k;induction k using Nat.strongRecOn with
  | ind k u =>
   intro m j p q l s D h4
   match hmm:m with
   |[] =>refine dU ?_;rw[adP,show cu ((p.length-o:Nat):Int) ((p.length-o+([]:List V3).length:Nat)-1:Int)=false from decide_eq_false (by simp;omega),qCf];rfl
   |[a] =>refine dU ?_;rw[adP,show cu ((p.length-o:Nat):Int) ((p.length-o+[a].length:Nat)-1:Int)=false from decide_eq_false (by simp),qCf];rfl
   | a::b::r =>
    obtain⟨c,z,w⟩:∃ c z,b::r=c++[z]:=⟨(b::r).dropLast,(b::r).getLast (by simp),(List.dropLast_concat_getLast (by simp)).symm⟩;rw[w]at j l s ⊢;have f:(a::(c++[z])).length=c.length+2:=by simp
    rw[f]at j l s ⊢;have v:((p.length-o+(c.length+2):Nat):Int)-1=((p.length-o+c.length+1:Nat):Int):=by omega
    have h:IntKind.i64.wrap (((p.length-o:Nat):Int)+1)=((p.length-o+1:Nat):Int):=kG (by omega);have g:IntKind.i64.wrap (((p.length-o+c.length+1:Nat):Int)-1)=((p.length-o+1+c.length:Nat):Int)-1:=by rw[wrap_eq (by omega) (by omega)];omega
    have B:q.length+o=p.length:=h4;have A:p++a::(c++[z])++q=p++a::c++z::q:=by simp
    have y:gt (p++a::c++z::q) (o+(p.length-o))=a:=by simp_all
    have x:gt (p++a::c++z::q) (o+(p.length-o+c.length+1))=z:=by rw[show o+(p.length-o+c.length+1)=p.length+(c.length+1) by omega];simp
    have e:o+(p.length-o)<(p++a::c++z::q).length:=by simp;omega
    have d:o+(p.length-o+c.length+1)<(p++a::c++z::q).length:=by simp;omega
    have i:p.length-o+c.length+1<n:=by omega
    refine dU ?_;rw[v,A,adP,show cu ((p.length-o:Nat):Int) ((p.length-o+c.length+1:Nat):Int)=true from decide_eq_true (by omega),qCt];rw[rng i,qCt,rng (show p.length-o<n by omega),qCt,qCt,qCt,h,g];simp only[qIt,Yq _ e,Yq _ d,y,x,Nw,aiP];have t:((p++a::c++z::q).set (o+(p.length-o)) z).set (o+(p.length-o+c.length+1)) a=p++z::c++a::q:=by rw[show o+(p.length-o)=p.length by omega,show o+(p.length-o+c.length+1)=p.length+1+c.length by omega];exact agZ a z p c q
    rw[t];have qx:=u c.length (by omega) c rfl (p++[z]) (a::q) (by simp;omega) (by simp;omega) (by simp;omega) (by simp;omega);rw[show(p++[z]).length-o=p.length-o+1 by simp;omega]at qx;rw[show p++[z]++c++a::q=p++z::c++a::q by simp,show p++[z]++c.reverse++a::q=p++(a::(c++[z])).reverse++q by simp]at qx;exact qx
theorem c89(a:V3)(r:List V3)(c:r.length<=999999):run tab X 89 [.slice 100000 3 1 r.length] [.arr true aU (bT (a::r))]=some ([],[.arr true aU (bT (a::r.reverse))]):=
 aY (hX _ rfl) (by have b:=l89 X hX 1 r.length (bT (a::r)) (by omega) r.length r rfl [a] [] (by simp) (by simp) (by simp) (by simp);rw[e89,wrap_eq (by omega) (by omega)];grind)
end
end
section
variable {i:Nat}{a b c d:V3}{z:Int}
abbrev kR:List Kd:=[.bool,.str,.bool,.str]
def encR(l:List Rt):List PV:=l.map uG
theorem JK(l:List Rt):(encR l).length=l.length:=by simp[encR]
theorem aiX(l:List Rt)(h:i<l.length)(d:Rt):(encR l).getD i .nil=uG (l.getD i d):=by grind[encR]
theorem NG(l:List Rt):((encR l).drop 0).take l.length=encR l:=by rw[qLy,<- JK l,List.take_length]
def Ph(ps:List (Int × Int)):List PV:=ps.map λp=>.agg [Ap p.1,Ap p.2]
abbrev gp(ps:List (Int × Int))(i:Nat):Int × Int:=ps.getD i (0,0)
theorem ag3(e:List (Int × Int))(h:i<e.length):(Ph e).getD i .nil=.agg [Ap (gp e i).1,Ap (gp e i).2]:=by grind[Ph]
def NH(l:List Rt)(p:Int × Int):List Rt:=if 0<=(low p.1 p.2).n/\(low p.1 p.2).n<=(low p.1 p.2).d then l++[low p.1 p.2]else l
def vO(l:List Rt)(ps:List (Int × Int)):List Rt:=ps.foldl NH l
theorem abR(l:List Rt)(p:Int × Int):(NH l p).length<=l.length+1:=by grind[NH]
def I43(z:Int):Prop:=-35184372088832<=z/\z<=35184372088832
def NI(a b c d:V3):Int:=(b.x-a.x)*(d.y-c.y)-(b.y-a.y)*(d.x-c.x)
def rG(a b c d:V3):List (Int × Int):=
 if NI a b c d=0 then(if area a b c=0 then [(yQ a b c,Et a b),(yQ a b d,Et a b)]else [])else [(NI a c c d,NI a b c d)]
theorem afI(j:qY a)(h:qY b)(g:qY c)(hd:qY d):I43 (NI a b c d):=by obtain⟨f,y1⟩:=zQ j h;obtain⟨e,y2⟩:=zQ g hd;have l:=wo f y2;have k:=wo y1 e;grind[I43,NI]
theorem abS(j:qY a)(h:qY b)(g:qY c)(hd:qY d):IntKind.i64.wrap ((IntKind.i64.wrap ((IntKind.i64.wrap (b.x-a.x))*(IntKind.i64.wrap (d.y-c.y))))-(IntKind.i64.wrap ((IntKind.i64.wrap (b.y-a.y))*(IntKind.i64.wrap (d.x-c.x)))))=NI a b c d:=by obtain⟨f,y1⟩:=zQ j h;obtain⟨e,y2⟩:=zQ g hd;have l:=wo f y2;have k:=wo y1 e;rw[wrap_eq (x:=b.x-a.x) (by omega) (by omega),wrap_eq (x:=d.x-c.x) (by omega) (by omega),wrap_eq (x:=b.y-a.y) (by omega) (by omega),wrap_eq (x:=d.y-c.y) (by omega) (by omega),wrap_eq (x:=(b.x-a.x)*_) (by omega) (by omega),wrap_eq (x:=(b.y-a.y)*_) (by omega) (by omega),wrap_eq (by omega) (by omega)];rfl
theorem afJ(h:I43 z):-9223372036854775808<=z/\z<=9223372036854775807:=by unfold I43 at h;omega
theorem aiY(h:I43 z):okW z:=(Vy h).1
theorem ad5{p:V3}(f:qY a)(e:qY b)(hp:qY p):I43 (yQ a b p):=(ds f e hp).dot
theorem afK(h:¬(a.x=b.x/\a.y=b.y)):0<Et a b:=by
 have l:=Yy (b.x-a.x);have k:=Yy (b.y-a.y);have g:∀ z:Int,z*z=0->z=0:=λz j=>by rcases Int.mul_eq_zero.1 j with h | h<;>exact h
 have e:Et a b=(b.x-a.x)*(b.x-a.x)+(b.y-a.y)*(b.y-a.y):=rfl;rcases Int.lt_or_le 0 (Et a b)with f | f
 . exact f
 . exact absurd ⟨by have:=g _ (show(b.x-a.x)*(b.x-a.x)=0 by omega);omega,by have:=g _ (show(b.y-a.y)*(b.y-a.y)=0 by omega);omega⟩ h
theorem Vz(g:qY a)(f:qY b)(j:qY c)(hd:qY d)(k:¬(a.x=b.x/\a.y=b.y)):(rG a b c d).length<=2/\∀ p∈rG a b c d,I43 p.1/\I43 p.2/\p.2≠0:=by
 have hp:=afK k;have b1:=ad5 g f f;unfold rG;split
 . split
   . refine⟨by simp,λp e=>?_⟩;simp only[List.mem_cons,List.not_mem_nil,or_false]at e;rcases e with rfl | rfl
     . exact⟨ad5 g f j,b1,by show Et a b≠0;omega⟩
     . exact⟨ad5 g f hd,b1,by show Et a b≠0;omega⟩
   simp
 . next h =>refine⟨by simp,λp e=>?_⟩;simp only[List.mem_cons,List.not_mem_nil,or_false]at e;subst e;exact⟨afI g j j hd,afI g f j hd,h⟩
def MS(a b:V3)(l:List Rt)(es:List pG):List Rt:=es.foldl (λl e=>vO l (rG a b e.1 e.2)) l
theorem aiZ{l:List Rt}{p:Int × Int}{r:Rt}(h:r∈NH l p):r∈l\/(r=low p.1 p.2/\0<=r.n/\r.n<=r.d):=by unfold NH at h;grind
section
variable (X:Ext) (hX:Mine X)
include hX
theorem c73(hB:Words X)(x y:Rt)(g:x.ok)(f:y.ok):run tab X 73 [.p (uG x),.p (uG y)] []=some ([Ab (x.n*y.d-y.n*x.d).sign],[]):=
 aY (hX _ rfl) (by have e:=c62 X hX hB x.n x.d y.n y.d g f;rw[eR,eR]at e;rw[uG,uG,eR,eR,e73,e];rfl)
variable (hB:Bits X)
include hB
abbrev ZV(o n:Nat)(b:List PV):List bZ:=[.box [.slice 99999 4 o n],.arr true [.bool,.str,.bool,.str] b]
theorem auW(t:List Rt)(e:List (Int × Int))(hp:∀ p∈e,I43 p.1/\I43 p.2/\p.2≠0)(F:e.length<=1000):∀(r:List (Int × Int)) (i:Nat) (l:List Rt),e.drop i=r->i<=e.length->l.length<=1000000+i ->
    L tab (run tab X) 133 (ZV 0 t.length (encR t)) [.lp [1,0]] (H7 (Ph e) ((e.length:Nat):Int) (i:Int) 0 l.length (encR l))=some ([],ZV 0 (vO l r).length (encR (vO l r))):=by
  have one:∀ a b:Int,I43 a->I43 b->b≠0->(low a b).ok:=λa b B A C=>Vx (aiY B) (aiY A) C;intro r;induction r with
  | nil =>
   intro i l j y _;have f:i=e.length:=by have:=congrArg List.length j;grind
   refine dU ?_;rw[afs,O3 (by omega),qCf];rfl
  | cons p r v =>
   intro i l j y G;have f:i<e.length:=by grind
   have w:gp e i=p:=by grind[qLb,List.head?_drop]
   have x:p∈e:=by grind
   obtain⟨s,q,o⟩:=hp p x;have k:=one p.1 p.2 s q o;have g:(Ph e).length=e.length:=by simp[Ph]
   have qx:=v (i+1) (NH l p) (by rw[<- List.tail_drop,j];rfl) (by omega) (by have:=abR l p;omega);have h:vO l (p::r)=vO (NH l p) r:=rfl;refine dU ?_;rw[afs,F6 f,qCt];simp only[g,rng f,qCt,qIt,ag3 e f,w];show(run tab X 134 [Ab p.1,Ab p.2] []).bind _=_;rw[aiW X hX hB p.1 p.2 (afJ s) (afJ q) o,qOb];simp only[qLh,List.tail_cons,bV,toInt_int,kG (show i<=9000000000000000000 by omega)];rw[show((0:Int)==0)=true from rfl,qCt];show(run tab X 109 [.p (eW (low p.1 p.2).n)] []).bind _=_;rw[c109 X hX _ k.1,qOb];simp only[qLh,bV,toInt_int,afG];rw[h];unfold NH at qx ⊢;by_cases m:0<=(low p.1 p.2).n
   . rw[decide_eq_true m,qCt];show(run tab X 135 [.p (eW (low p.1 p.2).n),.p (eW (low p.1 p.2).d)] []).bind _=_;rw[auX X hX _ _ k.1 k.2.1,qOb];simp only[qLh,bV,toInt_int,afH];by_cases u:(low p.1 p.2).n<=(low p.1 p.2).d
     . rw[decide_eq_true (by omega),qCt,if_pos ⟨m,u⟩];rw[if_pos ⟨m,u⟩]at qx;have E:F5 (l.length+1) 2147483648=true:=decide_eq_true (by omega);have D:encR (l++[low p.1 p.2])=encR l++[uG (low p.1 p.2)]:=by simp[encR]
       rw[E,qCt,NG];rw[D,qLp]at qx;exact qx
     grind
   grind
theorem auY(l:List Rt)(g:l.length<=1000000)(e:List (Int × Int))(hp:∀ p∈e,I43 p.1/\I43 p.2/\p.2≠0)(f:e.length<=1000):run tab X 133 [.p (.list true [.int .i64,.int .i64] (Ph e)),.ptr 100000 0 0] (ZV 0 l.length (encR l))=some ([],ZV 0 (vO l e).length (encR (vO l e))):=
 aY (hX _ rfl) (by have h:=auW X hX hB l e hp f e 0 l rfl (by omega) (by omega);grind[atX,Ph])
theorem c72(l:List Rt)(s:l.length<=1000000)(a b c d:V3)(g:qY a)(f:qY b)(j:qY c)(hd:qY d)(n:¬(a.x=b.x/\a.y=b.y)):run tab X 72 [.slice 99999 4 0 l.length,.p (cO a),.p (cO b),.p (cO c),.p (cO d)] [.log false [],.arr true kR (encR l)]=some ([.fresh true kR (encR (vO l (rG a b c d)))],[]):=
 aY (hX _ rfl) (by
  obtain⟨u,r⟩:=Vz g f j hd n;have q:=auY X hX hB l s (rG a b c d) r (by omega);have o:=c96 X hX a b c g.up f.up j.up;have t:∀ e:List Rt,(((abA (ZV 0 e.length (encR e))).drop ((ZF (ZV 0 e.length (encR e))).qM)).take ((ZF (ZV 0 e.length (encR e))).sLen))=encR e:=λe=>NG e;rw[cO,cO,cO]at o;rw[cO,cO,cO,cO,e72,abS g f j hd,abS g j j hd,Ig g f j,Ig g f f,Ig g f hd];rw[show yQ a b b=Et a b from rfl];unfold rG at q ⊢;by_cases m:NI a b c d=0
  . rw[if_pos m]at q ⊢;rw[show(NI a b c d != 0)=false from by rw[m];rfl,qCf,o,qOb];simp only[qLh,bV,toInt_int];by_cases k:area a b c=0
    . rw[if_pos k]at q ⊢;rw[show(qy a b c==0)=true from by unfold qy;rw[k];rfl,qCt];show(run tab X 133 [.p (.list true [.int .i64,.int .i64] (Ph [(yQ a b c,Et a b),(yQ a b d,Et a b)])),.ptr 100000 0 0] (ZV 0 l.length (encR l))).bind _=_;grind
    . rw[if_neg k]at q ⊢;have:qy a b c≠0:=by unfold qy;intro h;exact k (O6.1 h)
      rw[show(qy a b c==0)=false from beq_eq_false_iff_ne.2 this,qCf];rw[NG];rfl
  . rw[if_neg m]at q ⊢;rw[show(NI a b c d != 0)=true from bne_iff_ne.2 m,qCt];show(run tab X 133 [.p (.list true [.int .i64,.int .i64] (Ph [(NI a c c d,NI a b c d)])),.ptr 100000 0 0] (ZV 0 l.length (encR l))).bind _=_;grind)
end
end
section
variable {x y:Rt}{a b:Int}{l:List Rt}
theorem MV:∀{l m:List Nat},(∀ x∈l,x<256)->(∀ x∈m,x<256)->l.map UInt8.ofNat=m.map UInt8.ofNat->l=m
 |[],[],_,_,_=>rfl
 |[],_::_,_,_,h=>by simp at h
 | _::_,[],_,_,h=>by simp at h
 | x::l,y::m,hl,hm,h=>by
  simp only[List.map_cons,List.cons.injEq]at h;have e:=MV (λz c=>hl z (by simp[c])) (λz c=>hm z (by simp[c])) h.2;have d:x%256=y%256:=by have:=congrArg UInt8.toNat h.1;simpa using this
  have a:=hl x (by simp);have b:=hm y (by simp);grind
theorem alm{n m:Nat}(h:vk n=vk m):n=m:=by
 unfold vk at h;have g:=congrArg (λb:ByteArray=>b.data.toList) h;simp only[]at g;have d:∀ k,∀ x∈VA k,x<256:=λk x c=>by rw[VA,List.mem_reverse]at c;exact Dig.BZ (by decide) k x c
 have f:VA n=VA m:=MV (d n) (d m) g;unfold VA at f;have e:=congrArg List.reverse f;rw[List.reverse_reverse,List.reverse_reverse]at e;have h4:=congrArg (Dig.val 256) e;rwa[Dig.sO (by decide),Dig.sO (by decide)]at h4
theorem ai0(a b:ByteArray):(a==b)=true↔a=b:=by
 constructor
 . intro h;have h':(a.data==b.data)=true:=h;have c:=beq_iff_eq.1 h';cases a;cases b;simp_all
 . rintro rfl;show(a.data==a.data)=true;simp
theorem eqW{x y:Int}:(decide (x<0)==decide (y<0)&&(vk x.natAbs==vk y.natAbs&&true))=decide (x=y):=by
 rw[Bool.and_true,Bool.eq_iff_iff,qBa,qDa,beq_iff_eq,ai0,decide_eq_decide];constructor
 . rintro ⟨d,c⟩;have:=alm c;omega
 grind
theorem Zx(x y:Rt):(((((uG x).cell 0).toBool==((uG y).cell 0).toBool)&&((((uG x).cell 1).toStr==((uG y).cell 1).toStr)&&true))&&(((((uG x).cell 2).toBool==((uG y).cell 2).toBool)&&((((uG x).cell 3).toStr==((uG y).cell 3).toStr)&&true))&&true))=decide (x=y):=by
 have e:=eqW (x:=x.n) (y:=y.n);have c:=eqW (x:=x.d) (y:=y.d);show((decide (x.n<0)==decide (y.n<0)&&(vk x.n.natAbs==vk y.n.natAbs&&true))&&((decide (x.d<0)==decide (y.d<0)&&(vk x.d.natAbs==vk y.d.natAbs&&true))&&true))=_;rw[e,c,Bool.and_true,<- Bool.decide_and];apply decide_eq_decide.2;constructor
 . rintro ⟨h,h'⟩;cases x;cases y;simp_all
 grind
def Cn(r:Rt):Prop:=0<r.d/\Int.gcd r.n r.d=1
theorem afL{c:Int}(h:Int.gcd a b=1)(hd:b ∣ a*c):b ∣ c:=by
 have e:b.natAbs ∣ a.natAbs*c.natAbs:=by rw[<- Int.natAbs_mul];exact Int.natAbs_dvd_natAbs.2 hd
 have d:Nat.Coprime b.natAbs a.natAbs:=by rw[Nat.coprime_comm];exact h
 exact Int.natAbs_dvd_natAbs.1 (d.dvd_of_dvd_mul_left e)
theorem ai1(g:Cn x)(f:Cn y)(h:x.n*y.d=y.n*x.d):x=y:=by
 obtain⟨k,c⟩:=g;obtain⟨y1,y2⟩:=f;have j:x.d ∣ y.d:=afL c ⟨y.n,by rw[h,Int.mul_comm]⟩;have i:y.d ∣ x.d:=afL y2 ⟨x.n,by rw[<- h,Int.mul_comm]⟩;have e:x.d=y.d:=Int.dvd_antisymm (by omega) (by omega) j i;have m:x.n=y.n:=by rw[e]at h;exact Int.eq_of_mul_eq_mul_right (by omega) h
 cases x;cases y;simp_all
theorem gcd_dvd(a b:Int):((Int.gcd a b:Nat):Int) ∣ a/\((Int.gcd a b:Nat):Int) ∣ b:=⟨Int.gcd_dvd_left ..,Int.gcd_dvd_right ..⟩
theorem ad6(h:b≠0):Cn (low a b):=by
 refine⟨yD h,?_⟩;have hp:0<Int.gcd a b:=Int.gcd_pos_of_ne_zero_right _ h;have d:(D5 a b).natAbs=a.natAbs / Int.gcd a b:=by unfold D5;rw[Int.natAbs_mul,Int.natAbs_ediv_of_dvd (gcd_dvd a b).1];grind
 have c:(D6 a b).natAbs=b.natAbs / Int.gcd a b:=rfl;show Nat.gcd (D5 a b).natAbs (D6 a b).natAbs=1;rw[d,c];exact Nat.coprime_div_gcd_div_gcd hp
def Di(x y:Rt):Prop:=x.n*y.d<y.n*x.d
instance (x y:Rt):Decidable (Di x y):=by unfold Di;infer_instance
theorem yZ{z:Rt}(g:0<x.d)(f:0<y.d)(e:0<z.d)(i:¬ Di y x)(h:¬ Di z y):¬ Di z x:=by
 unfold Di at *;have a:x.n*y.d<=y.n*x.d:=by omega
 have b:y.n*z.d<=z.n*y.d:=by omega
 have j:=Int.mul_le_mul_of_nonneg_right a (by omega:0<=z.d);have b1:=Int.mul_le_mul_of_nonneg_right b (by omega:0<=x.d);have c:x.n*z.d*y.d<=z.n*x.d*y.d:=by grind
 simp_all
def ag4(x:Rt):List Rt->List Rt
 |[]=>[x]
 | y::r=>if Di y x then y::ag4 x r else x::y::r
def MJ(l:List Rt):List Rt:=l.foldr ag4 []
def Srt(l:List Rt):Prop:=l.Pairwise λx y=>¬ Di y x
theorem YA(x:Rt)(l:List Rt):(ag4 x l).Perm (x::l):=by
 induction l with
 | nil=>exact .refl _
 | cons y r c=>grind[ag4]
theorem Gz(l:List Rt):(MJ l).Perm l:=by
 induction l with
 | nil=>exact .refl _
 | cons x r c=>exact(YA x _).trans (c.cons x)
theorem ai2(i:0<x.d)(f:∀ y∈l,0<y.d)(h:Srt l):Srt (ag4 x l):=by
 induction l with
 | nil=>exact List.pairwise_cons.2 ⟨λ_ h=>by simp at h,List.Pairwise.nil⟩
 | cons y r g =>
  obtain⟨k,j⟩:=List.pairwise_cons.1 h;unfold ag4;split
  . next hc =>refine List.pairwise_cons.2 ⟨λz c=>?_,g (λz c=>f z (by simp[c])) j⟩;rcases List.mem_cons.1 ((YA x r).mem_iff.1 c)with rfl | c;all_goals grind[Di]
  . next hc =>
    refine List.pairwise_cons.2 ⟨λz c=>?_,h⟩;rcases List.mem_cons.1 c with rfl | e
    . exact hc
    . exact yZ i (f y (by simp)) (f z c) hc (k z e)
theorem abT(e:∀ y∈l,0<y.d):Srt (MJ l):=by
 induction l with
 | nil=>exact List.Pairwise.nil
 | cons x r f =>refine ai2 (e x (by simp)) (λy c=>e y ?_) (f λy c=>e y (by simp[c]));exact List.mem_cons_of_mem _ ((Gz r).mem_iff.1 c)
theorem VB:∀{l m:List Rt},l.Perm m->Srt l->Srt m->(∀ x∈l,Cn x)->l=m
 |[],m,hp,_,_,_=>by rw[List.nil_perm.1 hp]
 | x::l,[],hp,_,_,_=>by simp at hp
 | x::l,y::m,hp,hl,hm,hc=>by
  obtain⟨i,g⟩:=List.pairwise_cons.1 hl;obtain⟨f,d⟩:=List.pairwise_cons.1 hm;have k:=hp.mem_iff.1 (show x∈x::l by simp);have c:=hp.mem_iff.2 (show y∈y::m by simp);have e:x=y:=by
   rcases List.mem_cons.1 k with h | h
   . exact h
   . rcases List.mem_cons.1 c with h' | h'
     . exact h'.symm
     . have a:=f x h;have b:=i y h';unfold Di at a b;exact ai1 (hc x (by simp)) (hc y c) (by omega)
  subst e;rw[VB (hp.cons_inv) g d λz j=>hc z (by simp[j])]
def QT(x:Rt):List Rt->List Rt
 |[]=>[]
 | y::r=>if y=x then QT x r else y::QT y r
def QU:List Rt->List Rt
 |[]=>[]
 | x::r=>x::QT x r
theorem aln(x:Rt)(l:List Rt):(QT x l).length<=l.length:=by
 induction l generalizing x with
 | nil=>simp[QT]
 | cons y r c=>grind[QT]
end
section
variable {α:Type}{i:Nat}
abbrev Vr:={r:Rt // r.ok}
def abt(l:List Vr):List PV:=encR (l.map (·.1))
structure Sorts (X:Ext):Prop where
 s:∀ l:List Vr,l.length<=100000->∃ m:List Vr,m.Perm l/\Srt (m.map (·.1))/\run tab X 74 [.slice 100000 4 0 l.length,.p (.fn 73 [])] [.arr true kR (abt l)]=some ([],[.arr true kR (abt m)])
theorem abU{a b:List α}{k:Nat}(h:a.drop k=b.drop k)(c:k<=i)(d:α):a.getD i d=b.getD i d:=by have e:=congrArg (λl=>l.getD (i-k) d) h;grind
abbrev gr(l:List Rt)(i:Nat):Rt:=l.getD i ⟨0,0⟩
theorem zo(l:List Rt)(h:i<l.length):(encR l).getD i .nil=uG (gr l i):=aiX l h ⟨0,0⟩
theorem XZ(b:List α)(k:Nat)(x:α)(h:k<b.length):(b.set k x).take (k+1)=b.take k++[x]:=by rw[List.take_add_one,List.take_set_of_le (by omega),List.getElem?_set_self h];rfl
theorem abV(b:List α)(k m:Nat)(x:α)(h:k<m):(b.set k x).drop m=b.drop m:=List.drop_set_of_lt h
section
variable (X:Ext) (hX:Mine X)
include hX
theorem auZ(l:List Rt)(M:l.length<=1000000)(a:Nat)(E:0<a)(K:a<l.length):∀(r:List Rt) (j k:Nat) (b:List PV),l.drop (a+j)=r->0<j->a+j<=l.length->0<k->k<=a+j-1->b.length=l.length->b.drop (a+j-1)=(encR l).drop (a+j-1) ->
    ∀ acc:List Rt,b.take k=encR acc->acc.length=k->∃ h:List PV,L tab (run tab X) 75 [.arr true kR (encR l)] [.lp [1,1,0,1,0],.lp [1,0,0,1,0,1,0,1,0]] (mV 0 l.length (k:Int) a (l.length-a) (j:Int) b)=some ([.slice 100000 4 0 (acc.length+(QT (gr l (a+j-1)) r).length)],[.arr true kR h])/\h.take (acc.length+(QT (gr l (a+j-1)) r).length)=encR (acc++QT (gr l (a+j-1)) r):=by
  have _:=hX;intro r;induction r with
  | nil =>
   intro j k b s F u D t w hd acc d c;have v:a+j=l.length:=by have:=congrArg List.length s;grind
   refine⟨patch b (0+k) (List.replicate (((l.length:Int)-(k:Int)).toNat) (PV.agg [.bool false,.str ⟨#[]⟩,.bool false,.str ⟨#[]⟩])),?_,?_⟩
   . refine dU ?_;rw[vw,show cu ((j:Nat):Int) ((l.length-a:Nat):Int)=false from O3 (by omega),qCf];have g:leI ((k:Nat):Int) (l.length:Int)=true:=decide_eq_true (by omega);have q:leI (l.length:Int) (l.length:Int)=true:=decide_eq_true (by omega);rw[le0,g,q];simp only[qBs,qCt];rw[show(((k:Nat):Int)-0).toNat=k by omega,QT,List.length_nil,Nat.add_zero,c,qIt];rfl
   . rw[QT,List.append_nil,List.length_nil,Nat.add_zero,c,<- d,qNz];unfold patch;grind
  | cons x r B =>
   intro j k b s F u D t w hd acc d c;have v:a+j<l.length:=by grind
   have C:gr l (a+j)=x:=by grind[qLb,List.head?_drop]
   have hnext:l.drop (a+(j+1))=r:=by rw[<- Nat.add_assoc,<- List.tail_drop,s];rfl
   have A:b.getD (a+j) .nil=uG x:=by rw[abU hd (by omega),zo l (by omega),C]
   have z:b.getD (a+(j-1)) .nil=uG (gr l (a+j-1)):=by rw[show a+(j-1)=a+j-1 by omega,abU hd (by omega),zo l (by omega)]
   have y:IntKind.i64.wrap ((j:Int)-1)=((j-1:Nat):Int):=by rw[wrap_eq (by omega) (by omega)];omega
   have g:cu ((j:Nat):Int) ((l.length-a:Nat):Int)=true:=F6 (by omega);have q:cu ((j-1:Nat):Int) ((l.length-a:Nat):Int)=true:=F6 (by omega);have G:cu ((k:Nat):Int) (l.length:Int)=true:=F6 (by omega);have o:b.drop (a+(j+1)-1)=(encR l).drop (a+(j+1)-1):=by have:=congrArg (λm=>List.drop 1 m) hd;grind[List.drop_drop]
   have n:gr l (a+(j+1)-1)=x:=by rw[show a+(j+1)-1=a+j by omega,C]
   rw[QT];by_cases p:x=gr l (a+j-1)
   . rw[if_pos p];obtain⟨h,f,e⟩:=B (j+1) k b hnext (by omega) (by omega) D (by omega) w o acc d c;rw[n,p]at f e;refine⟨h,?_,e⟩;refine dU ?_;rw[vw,g,qCt,y];simp only[le0,g,q,qBs,qCt,qIt,A,z,Zx,decide_eq_true p,qBt,qCf,kG (show j<=9000000000000000000 by omega)];exact f
   . rw[if_neg p];have J:(b.set k (uG x)).take (k+1)=encR (acc++[x]):=by rw[XZ _ _ _ (by omega),d];simp[encR]
     obtain⟨h,f,e⟩:=B (j+1) (k+1) (b.set k (uG x)) hnext (by omega) (by omega) (by omega) (by omega) (by rw[List.length_set];exact w) (by rw[abV _ _ _ _ (by omega)];exact o) (acc++[x]) J (by simp[c]);rw[n]at f e;have I:(acc++[x]).length+(QT x r).length=acc.length+(x::QT x r).length:=by simp;omega
     have H:acc++[x]++QT x r=acc++x::QT x r:=by simp
     rw[I]at f e;rw[H]at e;refine⟨h,?_,e⟩;refine dU ?_;rw[vw,g,qCt,y];simp only[le0,g,q,G,qBs,qCt,qIt,A,z,Zx,decide_eq_false p,qBf,qNz,kG (show j<=9000000000000000000 by omega),kG (show k<=9000000000000000000 by omega),Yz];exact f
theorem au0(l:List Rt)(t:l.length<=1000000):∀(r:List Rt) (k:Nat),l.drop k=r->0<k->k<=l.length->QU l=l.take k ++ QT (gr l (k-1)) r ->
    ∃ d:List PV,L tab (run tab X) 75 [.arr true kR (encR l)] [.lp [1,1,0,1,0]] (KX 0 l.length (k:Int) (encR l))=some ([.slice 100000 4 0 (QU l).length],[.arr true kR d])/\d.take (QU l).length=encR (QU l):=by
  intro r;induction r with
  | nil =>
   intro k m o n a;have b:k=l.length:=by have:=congrArg List.length m;grind
   have e:QU l=l:=by rw[a,QT,List.append_nil,b,List.take_length]
   refine⟨encR l,?_,by rw[e,<- JK,List.take_length]⟩;refine dU ?_;rw[QC,O3 (by omega),qCf,e]
  | cons x r s =>
   intro k m o n a;have b:k<l.length:=by grind
   have g:gr l k=x:=by grind[qLb,List.head?_drop]
   have p:IntKind.i64.wrap ((k:Int)-1)=((k-1:Nat):Int):=by rw[wrap_eq (by omega) (by omega)];omega
   have h:cu ((k:Nat):Int) (l.length:Int)=true:=F6 b;have q:cu ((k-1:Nat):Int) (l.length:Int)=true:=F6 (by omega);have hnext:l.drop (k+1)=r:=by rw[<- List.tail_drop,m];rfl
   by_cases c:x=gr l (k-1)
   . rw[QT,if_pos c]at a;have w:(encR l).take k=encR (l.take k):=by simp[encR]
     obtain⟨d,j,f⟩:=auZ X hX l t k o b r 1 k (encR l) hnext (by omega) (by omega) o (by omega) (JK l) rfl (l.take k) w (by simp;omega);rw[show k+1-1=k by omega,g,c,<- a,<- qLp,<- a]at f;rw[show k+1-1=k by omega,g,c,<- qLp,<- a]at j;refine⟨d,?_,f⟩;refine dU ?_;have v:leI ((k:Nat):Int) (l.length:Int)=true:=decide_eq_true (by omega);have u:leI (l.length:Int) (l.length:Int)=true:=decide_eq_true (by omega);rw[QC,h,qCt,p];simp only[le0,h,q,v,u,qBs,qCt,qIt,qNz,zo l b,zo l (show k-1<l.length by omega),Zx,g,decide_eq_true c];grind
   . rw[QT,if_neg c]at a;obtain⟨d,j,f⟩:=s (k+1) hnext (by omega) (by omega) (by grind);refine⟨d,?_,f⟩;refine dU ?_;rw[QC,h,qCt,p];simp only[le0,h,q,qBs,qCt,qIt,qNz,zo l b,zo l (show k-1<l.length by omega),Zx,g,decide_eq_false c,qCf,kG (show k<=9000000000000000000 by omega)];exact j
theorem c75(l:List Rt)(f:l.length<=1000000):∃ a:List PV,run tab X 75 [.slice 100000 4 0 l.length] [.arr true kR (encR l)]=some ([.slice 100000 4 0 (QU l).length],[.arr true kR a])/\a.take (QU l).length=encR (QU l):=by
 by_cases b:l.length<2
 . have e:QU l=l:=by
     match l,b with
     |[],_=>rfl
     |[x],_=>rfl
     | _::_::_,h=>simp at h;omega
   refine⟨encR l,aY (hX _ rfl) ?_,by rw[e,<- JK,List.take_length]⟩;rw[e75,show cu (l.length:Int) 2=true from decide_eq_true (by omega),qCt,e]
 . obtain ⟨a,d,c⟩:=au0 X hX l f (l.drop 1) 1 rfl (by omega) (by omega) (by
     cases l with
     | nil=>simp at b
     | cons x r=>rfl)
   refine⟨a,aY (hX _ rfl) ?_,c⟩;rw[e75,show cu (l.length:Int) 2=false from decide_eq_false (by omega),qCf];exact d
end
end
end Go.Skm.Fen
