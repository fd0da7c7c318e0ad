import Derived.Test.YtoheflpoanjihaaGreatG19
import Derived.Test.YtoheflpoanjihaaGreatEqd
set_option linter.all false
namespace Go.Skm.Fen
open Go Go.Skm
section
theorem JU(v:V3):PV.agg [.int .i64 (((encV v).cell 0).toInt),.int .i64 (((encV v).cell 1).toInt),.int .i64 (((encV v).cell 2).toInt)]=encV v:=rfl
theorem OZ(l:List V3)(i:Nat)(v:V3):(encL l).set i (encV v)=encL (l.set i v):=by simp[encL,List.map_set]
theorem Fj(l:List V3){i:Nat}(h:i<l.length):(encL l).getD i .nil=encV (gt l i):=by rw[encL,qLb,List.getElem?_map,qLd h];simp[gt,qLb,qLd h]
theorem NH(a b:V3)(p m q:List V3):((p++a::m++b::q).set p.length b).set (p.length+1+m.length) a=p++b::m++a::q:=by
 have c:(p++a::m++b::q).set p.length b=p++b::(m++b::q):=by rw[List.append_assoc,List.set_append_right _ _ (qNr _),Nat.sub_self];rfl
 rw[c,List.set_append_right _ _ (by omega),show p.length+1+m.length-p.length=m.length+1 by omega,List.set_cons_succ,List.set_append_right _ _ (qNr _),Nat.sub_self];simp
section
variable (X:Ext) (hX:Mine X)
include hX
theorem l89(o n:Nat)(b0:List PV)(C:o+n<=1000000):∀(k:Nat) (m:List V3),m.length=k->∀(p q:List V3),p.length+q.length+m.length=o+n->p.length+m.length<=o+n->o<=p.length->q.length+o=p.length ->
    L tab (run tab X) 89 [.arr true kV3 b0] [.lp [1,0]] (Gn o n ((p.length-o:Nat):Int) ((p.length-o+m.length:Nat)-1:Int) (encL (p++m++q)))=some ([],[.arr true kV3 (encL (p++m.reverse++q))]):=by
  have _:=hX;intro k;induction k using Nat.strongRecOn with
  | ind k u =>
   intro m j p q l s D h4
   match hmm:m with
   |[] =>refine L_of ?_;rw[JK,show ltI ((p.length-o:Nat):Int) ((p.length-o+([]:List V3).length:Nat)-1:Int)=false from decide_eq_false (by simp;omega),qCf];rfl
   |[a] =>refine L_of ?_;rw[JK,show ltI ((p.length-o:Nat):Int) ((p.length-o+[a].length:Nat)-1:Int)=false from decide_eq_false (by simp),qCf];rfl
   | a::b::r =>
    obtain⟨c,z,w⟩:∃ c z,b::r=c++[z]:=⟨(b::r).dropLast,(b::r).getLast (by simp),(List.dropLast_concat_getLast (by simp)).symm⟩;rw[w]at j l s ⊢;have f:(a::(c++[z])).length=c.length+2:=by simp
    rw[f]at j l s ⊢;have v:((p.length-o+(c.length+2):Nat):Int)-1=((p.length-o+c.length+1:Nat):Int):=by omega
    have h:IntKind.i64.wrap (((p.length-o:Nat):Int)+1)=((p.length-o+1:Nat):Int):=fH (by omega);have g:IntKind.i64.wrap (((p.length-o+c.length+1:Nat):Int)-1)=((p.length-o+1+c.length:Nat):Int)-1:=by rw[wrap_eq (by omega) (by omega)];omega
    have B:q.length+o=p.length:=h4;have A:p++a::(c++[z])++q=p++a::c++z::q:=by simp
    have y:gt (p++a::c++z::q) (o+(p.length-o))=a:=by rw[show o+(p.length-o)=p.length by omega];simp[gt,qLb]
    have x:gt (p++a::c++z::q) (o+(p.length-o+c.length+1))=z:=by rw[show o+(p.length-o+c.length+1)=p.length+(c.length+1) by omega];show(p++a::c++z::q).getD _ default=z;rw[List.append_assoc,qLb,List.getElem?_append_right (by omega),show p.length+(c.length+1)-p.length=c.length+1 by omega];simp
    have e:o+(p.length-o)<(p++a::c++z::q).length:=by simp;omega
    have d:o+(p.length-o+c.length+1)<(p++a::c++z::q).length:=by simp;omega
    have i:p.length-o+c.length+1<n:=by omega
    refine L_of ?_;rw[v,A,JK,show ltI ((p.length-o:Nat):Int) ((p.length-o+c.length+1:Nat):Int)=true from decide_eq_true (by omega),qCt];rw[rng i,qCt,rng (show p.length-o<n by omega),qCt,qCt,qCt,h,g];simp only[qIt,Fj _ e,Fj _ d,y,x,JU,OZ];have t:((p++a::c++z::q).set (o+(p.length-o)) z).set (o+(p.length-o+c.length+1)) a=p++z::c++a::q:=by rw[show o+(p.length-o)=p.length by omega,show o+(p.length-o+c.length+1)=p.length+1+c.length by omega];exact NH a z p c q
    rw[t];have jX:=u c.length (by omega) c rfl (p++[z]) (a::q) (by simp;omega) (by simp;omega) (by simp;omega) (by simp;omega);rw[show(p++[z]).length-o=p.length-o+1 by simp;omega]at jX;rw[show p++[z]++c++a::q=p++z::c++a::q by simp,show p++[z]++c.reverse++a::q=p++(a::(c++[z])).reverse++q by simp]at jX;exact jX
theorem c89(a:V3)(r:List V3)(c:r.length<=999999):run tab X 89 [.slice 100000 3 1 r.length] [.arr true kV3 (encL (a::r))]=some ([],[.arr true kV3 (encL (a::r.reverse))]):=
 run_of (hX _ rfl) (by have b:=l89 X hX 1 r.length (encL (a::r)) (by omega) r.length r rfl [a] [] (by simp) (by simp) (by simp) (by simp);rw[e89,wrap_eq (by omega) (by omega)];simpa using b)
end
end
section
variable {i:Nat}{a b c d:V3}{z:Int}
abbrev kR:List Kd:=[.bool,.str,.bool,.str]
def encR(l:List Rt):List PV:=l.map lM
theorem wI(l:List Rt):(encR l).length=l.length:=by simp[encR]
theorem O7(l:List Rt)(h:i<l.length)(d:Rt):(encR l).getD i .nil=lM (l.getD i d):=by grind[encR]
theorem yC(l:List Rt):((encR l).drop 0).take l.length=encR l:=by rw[qLy,<- wI l,List.take_length]
def zx(ps:List (Int × Int)):List PV:=ps.map λp=>.agg [.int .i64 p.1,.int .i64 p.2]
abbrev gp(ps:List (Int × Int))(i:Nat):Int × Int:=ps.getD i (0,0)
theorem NM(e:List (Int × Int))(h:i<e.length):(zx e).getD i .nil=.agg [.int .i64 (gp e i).1,.int .i64 (gp e i).2]:=by grind[zx]
def Ee(l:List Rt)(p:Int × Int):List Rt:=if 0<=(low p.1 p.2).n/\(low p.1 p.2).n<=(low p.1 p.2).d then l++[low p.1 p.2]else l
def oL(l:List Rt)(ps:List (Int × Int)):List Rt:=ps.foldl Ee l
theorem IX(l:List Rt)(p:Int × Int):(Ee l p).length<=l.length+1:=by grind[Ee]
def I43(z:Int):Prop:=-35184372088832<=z/\z<=35184372088832
def Ef(a b c d:V3):Int:=(b.x-a.x)*(d.y-c.y)-(b.y-a.y)*(d.x-c.x)
def sO(a b c d:V3):List (Int × Int):=
 if Ef a b c d=0 then(if area a b c=0 then [(gq a b c,kY a b),(gq a b d,kY a b)]else [])else [(Ef a c c d,Ef a b c d)]
theorem LV(j:je a)(h:je b)(g:je c)(hd:je d):I43 (Ef a b c d):=by obtain⟨f,y1⟩:=lG j h;obtain⟨e,y2⟩:=lG g hd;have l:=mG f y2;have k:=mG y1 e;grind[I43,Ef]
theorem IY(j:je a)(h:je b)(g:je c)(hd:je d):IntKind.i64.wrap ((IntKind.i64.wrap ((IntKind.i64.wrap (b.x-a.x))*(IntKind.i64.wrap (d.y-c.y))))-(IntKind.i64.wrap ((IntKind.i64.wrap (b.y-a.y))*(IntKind.i64.wrap (d.x-c.x)))))=Ef a b c d:=by obtain⟨f,y1⟩:=lG j h;obtain⟨e,y2⟩:=lG g hd;have l:=mG f y2;have k:=mG y1 e;rw[wrap_eq (x:=b.x-a.x) (by omega) (by omega),wrap_eq (x:=d.x-c.x) (by omega) (by omega),wrap_eq (x:=b.y-a.y) (by omega) (by omega),wrap_eq (x:=d.y-c.y) (by omega) (by omega),wrap_eq (x:=(b.x-a.x)*_) (by omega) (by omega),wrap_eq (x:=(b.y-a.y)*_) (by omega) (by omega),wrap_eq (by omega) (by omega)];rfl
theorem LW(h:I43 z):-9223372036854775808<=z/\z<=9223372036854775807:=by unfold I43 at h;omega
theorem O8(h:I43 z):okW z:=(Ec h).1
theorem J3{p:V3}(f:je a)(e:je b)(hp:je p):I43 (gq a b p):=(ds f e hp).dot
theorem QX(h:¬(a.x=b.x/\a.y=b.y)):0<kY a b:=by
 have l:=sq_bd (b.x-a.x);have k:=sq_bd (b.y-a.y);have g:∀ z:Int,z*z=0->z=0:=λz j=>by rcases Int.mul_eq_zero.1 j with h | h<;>exact h
 have e:kY a b=(b.x-a.x)*(b.x-a.x)+(b.y-a.y)*(b.y-a.y):=rfl;rcases Int.lt_or_le 0 (kY a b)with f | f
 . exact f
 . exact absurd ⟨by have:=g _ (show(b.x-a.x)*(b.x-a.x)=0 by omega);omega,by have:=g _ (show(b.y-a.y)*(b.y-a.y)=0 by omega);omega⟩ h
theorem IZ(g:je a)(f:je b)(j:je c)(hd:je d)(k:¬(a.x=b.x/\a.y=b.y)):(sO a b c d).length<=2/\∀ p∈sO a b c d,I43 p.1/\I43 p.2/\p.2≠0:=by
 have hp:=QX k;have b1:=J3 g f f;unfold sO;split
 . split
   . refine⟨by simp,λp e=>?_⟩;simp only[List.mem_cons,List.not_mem_nil,or_false]at e;rcases e with rfl | rfl
     . exact⟨J3 g f j,b1,by show kY a b≠0;omega⟩
     . exact⟨J3 g f hd,b1,by show kY a b≠0;omega⟩
   simp
 . next h =>refine⟨by simp,λp e=>?_⟩;simp only[List.mem_cons,List.not_mem_nil,or_false]at e;subst e;exact⟨LV g j j hd,LV g f j hd,h⟩
def I4(a b:V3)(l:List Rt)(es:List ku):List Rt:=es.foldl (λl e=>oL l (sO a b e.1 e.2)) l
theorem O9{l:List Rt}{p:Int × Int}{r:Rt}(h:r∈Ee l p):r∈l\/(r=low p.1 p.2/\0<=r.n/\r.n<=r.d):=by unfold Ee at h;grind
section
variable (X:Ext) (hX:Mine X)
include hX
theorem c73(hB:Words X)(x y:Rt)(g:x.ok)(f:y.ok):run tab X 73 [.p (lM x),.p (lM y)] []=some ([.p (.int .i64 (x.n*y.d-y.n*x.d).sign)],[]):=
 run_of (hX _ rfl) (by have e:=c62 X hX hB x.n x.d y.n y.d g f;rw[eR,eR]at e;rw[lM,lM,eR,eR,e73,e];rfl)
variable (hB:Bits X)
include hB
abbrev G5(o n:Nat)(b:List PV):List Blk:=[.box [.slice 99999 4 o n],.arr true [.bool,.str,.bool,.str] b]
theorem aan(t:List Rt)(e:List (Int × Int))(hp:∀ p∈e,I43 p.1/\I43 p.2/\p.2≠0)(F:e.length<=1000):∀(r:List (Int × Int)) (i:Nat) (l:List Rt),e.drop i=r->i<=e.length->l.length<=1000000+i ->
    L tab (run tab X) 133 (G5 0 t.length (encR t)) [.lp [1,0]] (uU (zx e) ((e.length:Nat):Int) (i:Int) 0 l.length (encR l))=some ([],G5 0 (oL l r).length (encR (oL l r))):=by
  have one:∀ a b:Int,I43 a->I43 b->b≠0->(low a b).ok:=λa b B A C=>Eb (O8 B) (O8 A) C;intro r;induction r with
  | nil =>
   intro i l j y _;have f:i=e.length:=by have:=congrArg List.length j;grind
   refine L_of ?_;rw[Lj,yL (by omega),qCf];rfl
  | cons p r v =>
   intro i l j y G;have f:i<e.length:=by grind
   have w:gp e i=p:=by grind[qLb,List.head?_drop]
   have x:p∈e:=by grind
   obtain⟨s,q,o⟩:=hp p x;have k:=one p.1 p.2 s q o;have g:(zx e).length=e.length:=by simp[zx]
   have jX:=v (i+1) (Ee l p) (by rw[<- List.tail_drop,j];rfl) (by omega) (by have:=IX l p;omega);have h:oL l (p::r)=oL (Ee l p) r:=rfl;refine L_of ?_;rw[Lj,sG f,qCt];simp only[g,rng f,qCt,qIt,NM e f,w];show(run tab X 134 [.p (.int .i64 p.1),.p (.int .i64 p.2)] []).bind _=_;rw[O6 X hX hB p.1 p.2 (LW s) (LW q) o,qOb];simp only[qLh,List.tail_cons,pv_p,toInt_int,fH (show i<=9000000000000000000 by omega)];rw[show((0:Int)==0)=true from rfl,qCt];show(run tab X 109 [.p (eW (low p.1 p.2).n)] []).bind _=_;rw[c109 X hX _ k.1,qOb];simp only[qLh,pv_p,toInt_int,LQ];rw[h];unfold Ee at jX ⊢;by_cases m:0<=(low p.1 p.2).n
   . rw[decide_eq_true m,qCt];show(run tab X 135 [.p (eW (low p.1 p.2).n),.p (eW (low p.1 p.2).d)] []).bind _=_;rw[aao X hX _ _ k.1 k.2.1,qOb];simp only[qLh,pv_p,toInt_int,LU];by_cases u:(low p.1 p.2).n<=(low p.1 p.2).d
     . rw[decide_eq_true (by omega),qCt,if_pos ⟨m,u⟩];rw[if_pos ⟨m,u⟩]at jX;have E:leN (l.length+1) 2147483648=true:=decide_eq_true (by omega);have D:encR (l++[low p.1 p.2])=encR l++[lM (low p.1 p.2)]:=by simp[encR]
       rw[E,qCt,yC];rw[D,qLp]at jX;exact jX
     grind
   grind
theorem aap(l:List Rt)(g:l.length<=1000000)(e:List (Int × Int))(hp:∀ p∈e,I43 p.1/\I43 p.2/\p.2≠0)(f:e.length<=1000):run tab X 133 [.p (.list true [.int .i64,.int .i64] (zx e)),.ptr 100000 0 0] (G5 0 l.length (encR l))=some ([],G5 0 (oL l e).length (encR (oL l e))):=
 run_of (hX _ rfl) (by have h:=aan X hX hB l e hp f e 0 l rfl (by omega) (by omega);grind[ZL,zx])
theorem c72(l:List Rt)(s:l.length<=1000000)(a b c d:V3)(g:je a)(f:je b)(j:je c)(hd:je d)(n:¬(a.x=b.x/\a.y=b.y)):run tab X 72 [.slice 99999 4 0 l.length,.p (encV a),.p (encV b),.p (encV c),.p (encV d)] [.log false [],.arr true kR (encR l)]=some ([.fresh true kR (encR (oL l (sO a b c d)))],[]):=
 run_of (hX _ rfl) (by
  obtain⟨u,r⟩:=IZ g f j hd n;have q:=aap X hX hB l s (sO a b c d) r (by omega);have o:=c96 X hX a b c g.up f.up j.up;have t:∀ e:List Rt,(((varXs (G5 0 e.length (encR e))).drop ((varV (G5 0 e.length (encR e))).sOff)).take ((varV (G5 0 e.length (encR e))).sLen))=encR e:=λe=>yC e;rw[encV,encV,encV]at o;rw[encV,encV,encV,encV,e72,IY g f j hd,IY g j j hd,qM g f j,qM g f f,qM g f hd];rw[show gq a b b=kY a b from rfl];unfold sO at q ⊢;by_cases m:Ef a b c d=0
  . rw[if_pos m]at q ⊢;rw[show(Ef a b c d != 0)=false from by rw[m];rfl,qCf,o,qOb];simp only[qLh,pv_p,toInt_int];by_cases k:area a b c=0
    . rw[if_pos k]at q ⊢;rw[show(iZ a b c==0)=true from by unfold iZ;rw[k];rfl,qCt];show(run tab X 133 [.p (.list true [.int .i64,.int .i64] (zx [(gq a b c,kY a b),(gq a b d,kY a b)])),.ptr 100000 0 0] (G5 0 l.length (encR l))).bind _=_;grind
    . rw[if_neg k]at q ⊢;have:iZ a b c≠0:=by unfold iZ;intro h;exact k (zi.1 h)
      rw[show(iZ a b c==0)=false from beq_eq_false_iff_ne.2 this,qCf];rw[yC];rfl
  . rw[if_neg m]at q ⊢;rw[show(Ef a b c d != 0)=true from bne_iff_ne.2 m,qCt];show(run tab X 133 [.p (.list true [.int .i64,.int .i64] (zx [(Ef a c c d,Ef a b c d)])),.ptr 100000 0 0] (G5 0 l.length (encR l))).bind _=_;grind)
end
end
section
variable {x y:Rt}{a b:Int}{l:List Rt}
theorem yc:∀{l m:List Nat},(∀ x∈l,x<256)->(∀ x∈m,x<256)->l.map UInt8.ofNat=m.map UInt8.ofNat->l=m
 |[],[],_,_,_=>rfl
 |[],_::_,_,_,h=>by simp at h
 | _::_,[],_,_,h=>by simp at h
 | x::l,y::m,hl,hm,h=>by
  simp only[List.map_cons,List.cons.injEq]at h;have e:=yc (λz c=>hl z (by simp[c])) (λz c=>hm z (by simp[c])) h.2;have d:x%256=y%256:=by have:=congrArg UInt8.toNat h.1;simpa using this
  have a:=hl x (by simp);have b:=hm y (by simp);grind
theorem QY{n m:Nat}(h:jD n=jD m):n=m:=by
 unfold jD at h;have g:=congrArg (λb:ByteArray=>b.data.toList) h;simp only[]at g;have d:∀ k,∀ x∈BZ k,x<256:=λk x c=>by rw[BZ,List.mem_reverse]at c;exact Dig.qI (by decide) k x c
 have f:BZ n=BZ m:=yc (d n) (d m) g;unfold BZ at f;have e:=congrArg List.reverse f;rw[List.reverse_reverse,List.reverse_reverse]at e;have h4:=congrArg (Dig.val 256) e;rwa[Dig.kD (by decide),Dig.kD (by decide)]at h4
theorem Ph(a b:ByteArray):(a==b)=true↔a=b:=by
 constructor
 . intro h;have h':(a.data==b.data)=true:=h;have c:=beq_iff_eq.1 h';cases a;cases b;simp_all
 . rintro rfl;show(a.data==a.data)=true;simp
theorem eqW{x y:Int}:(decide (x<0)==decide (y<0)&&(jD x.natAbs==jD y.natAbs&&true))=decide (x=y):=by
 rw[Bool.and_true,Bool.eq_iff_iff,qBa,qDa,beq_iff_eq,Ph,decide_eq_decide];constructor
 . rintro ⟨d,c⟩;have:=QY c;omega
 grind
theorem Gl(x y:Rt):(((((lM x).cell 0).toBool==((lM y).cell 0).toBool)&&((((lM x).cell 1).toStr==((lM y).cell 1).toStr)&&true))&&(((((lM x).cell 2).toBool==((lM y).cell 2).toBool)&&((((lM x).cell 3).toStr==((lM y).cell 3).toStr)&&true))&&true))=decide (x=y):=by
 have e:=eqW (x:=x.n) (y:=y.n);have c:=eqW (x:=x.d) (y:=y.d);show((decide (x.n<0)==decide (y.n<0)&&(jD x.n.natAbs==jD y.n.natAbs&&true))&&((decide (x.d<0)==decide (y.d<0)&&(jD x.d.natAbs==jD y.d.natAbs&&true))&&true))=_;rw[e,c,Bool.and_true,<- Bool.decide_and];apply decide_eq_decide.2;constructor
 . rintro ⟨h,h'⟩;cases x;cases y;simp_all
 grind
def Cn(r:Rt):Prop:=0<r.d/\Int.gcd r.n r.d=1
theorem LX{c:Int}(h:Int.gcd a b=1)(hd:b ∣ a*c):b ∣ c:=by
 have e:b.natAbs ∣ a.natAbs*c.natAbs:=by rw[<- Int.natAbs_mul];exact Int.natAbs_dvd_natAbs.2 hd
 have d:Nat.Coprime b.natAbs a.natAbs:=by rw[Nat.coprime_comm];exact h
 exact Int.natAbs_dvd_natAbs.1 (d.dvd_of_dvd_mul_left e)
theorem SI(g:Cn x)(f:Cn y)(h:x.n*y.d=y.n*x.d):x=y:=by
 obtain⟨k,c⟩:=g;obtain⟨y1,y2⟩:=f;have j:x.d ∣ y.d:=LX c ⟨y.n,by rw[h,Int.mul_comm]⟩;have i:y.d ∣ x.d:=LX y2 ⟨x.n,by rw[<- h,Int.mul_comm]⟩;have e:x.d=y.d:=Int.dvd_antisymm (by omega) (by omega) j i;have m:x.n=y.n:=by rw[e]at h;exact Int.eq_of_mul_eq_mul_right (by omega) h
 cases x;cases y;simp_all
theorem gcd_dvd(a b:Int):((Int.gcd a b:Nat):Int) ∣ a/\((Int.gcd a b:Nat):Int) ∣ b:=⟨Int.gcd_dvd_left ..,Int.gcd_dvd_right ..⟩
theorem G6(h:b≠0):Cn (low a b):=by
 refine⟨wG h,?_⟩;have hp:0<Int.gcd a b:=Int.gcd_pos_of_ne_zero_right _ h;have d:(ou a b).natAbs=a.natAbs / Int.gcd a b:=by unfold ou;rw[Int.natAbs_mul,Int.natAbs_ediv_of_dvd (gcd_dvd a b).1];grind
 have c:(nJ a b).natAbs=b.natAbs / Int.gcd a b:=rfl;show Nat.gcd (ou a b).natAbs (nJ a b).natAbs=1;rw[d,c];exact Nat.coprime_div_gcd_div_gcd hp
def JI(x y:Rt):Prop:=x.n*y.d<y.n*x.d
instance (x y:Rt):Decidable (JI x y):=by unfold JI;infer_instance
theorem zY{z:Rt}(g:0<x.d)(f:0<y.d)(e:0<z.d)(i:¬ JI y x)(h:¬ JI z y):¬ JI z x:=by
 unfold JI at *;have a:x.n*y.d<=y.n*x.d:=by omega
 have b:y.n*z.d<=z.n*y.d:=by omega
 have j:=Int.mul_le_mul_of_nonneg_right a (by omega:0<=z.d);have b1:=Int.mul_le_mul_of_nonneg_right b (by omega:0<=x.d);have c:x.n*z.d*y.d<=z.n*x.d*y.d:=by grind
 simp_all
def NP(x:Rt):List Rt->List Rt
 |[]=>[x]
 | y::r=>if JI y x then y::NP x r else x::y::r
def xU(l:List Rt):List Rt:=l.foldr NP []
def Tv(l:List Rt):Prop:=l.Pairwise λx y=>¬ JI y x
theorem FK(x:Rt)(l:List Rt):(NP x l).Perm (x::l):=by
 induction l with
 | nil=>exact .refl _
 | cons y r c=>grind[NP]
theorem xE(l:List Rt):(xU l).Perm l:=by
 induction l with
 | nil=>exact .refl _
 | cons x r c=>exact(FK x _).trans (c.cons x)
theorem Pj(i:0<x.d)(f:∀ y∈l,0<y.d)(h:Tv l):Tv (NP x l):=by
 induction l with
 | nil=>exact List.pairwise_cons.2 ⟨λ_ h=>by simp at h,List.Pairwise.nil⟩
 | cons y r g =>
  obtain⟨k,j⟩:=List.pairwise_cons.1 h;unfold NP;split
  . next hc =>refine List.pairwise_cons.2 ⟨λz c=>?_,g (λz c=>f z (by simp[c])) j⟩;rcases List.mem_cons.1 ((FK x r).mem_iff.1 c)with rfl | c;all_goals grind[JI]
  . next hc =>
    refine List.pairwise_cons.2 ⟨λz c=>?_,h⟩;rcases List.mem_cons.1 c with rfl | e
    . exact hc
    . exact zY i (f y (by simp)) (f z c) hc (k z e)
theorem Pm(e:∀ y∈l,0<y.d):Tv (xU l):=by
 induction l with
 | nil=>exact List.Pairwise.nil
 | cons x r f =>refine Pj (e x (by simp)) (λy c=>e y ?_) (f λy c=>e y (by simp[c]));exact List.mem_cons_of_mem _ ((xE r).mem_iff.1 c)
theorem Eh:∀{l m:List Rt},l.Perm m->Tv l->Tv m->(∀ x∈l,Cn x)->l=m
 |[],m,hp,_,_,_=>by rw[List.nil_perm.1 hp]
 | x::l,[],hp,_,_,_=>by simp at hp
 | x::l,y::m,hp,hl,hm,hc=>by
  obtain⟨i,g⟩:=List.pairwise_cons.1 hl;obtain⟨f,d⟩:=List.pairwise_cons.1 hm;have k:=hp.mem_iff.1 (show x∈x::l by simp);have c:=hp.mem_iff.2 (show y∈y::m by simp);have e:x=y:=by
   rcases List.mem_cons.1 k with h | h
   . exact h
   . rcases List.mem_cons.1 c with h' | h'
     . exact h'.symm
     . have a:=f x h;have b:=i y h';unfold JI at a b;exact SI (hc x (by simp)) (hc y c) (by omega)
  subst e;rw[Eh (hp.cons_inv) g d λz j=>hc z (by simp[j])]
def Ei(x:Rt):List Rt->List Rt
 |[]=>[]
 | y::r=>if y=x then Ei x r else y::Ei y r
def Ej:List Rt->List Rt
 |[]=>[]
 | x::r=>x::Ei x r
theorem QZ(x:Rt)(l:List Rt):(Ei x l).length<=l.length:=by
 induction l generalizing x with
 | nil=>simp[Ei]
 | cons y r c=>grind[Ei]
end
section
variable {α:Type}{i:Nat}
abbrev Vr:={r:Rt // r.ok}
def Io(l:List Vr):List PV:=encR (l.map (·.1))
structure Sorts (X:Ext):Prop where
 s:∀ l:List Vr,l.length<=100000->∃ m:List Vr,m.Perm l/\Tv (m.map (·.1))/\run tab X 74 [.slice 100000 4 0 l.length,.p (.fn 73 [])] [.arr true kR (Io l)]=some ([],[.arr true kR (Io m)])
theorem I5{a b:List α}{k:Nat}(h:a.drop k=b.drop k)(c:k<=i)(d:α):a.getD i d=b.getD i d:=by have e:=congrArg (λl=>l.getD (i-k) d) h;grind
abbrev gr(l:List Rt)(i:Nat):Rt:=l.getD i ⟨0,0⟩
theorem pq(l:List Rt)(h:i<l.length):(encR l).getD i .nil=lM (gr l i):=O7 l h ⟨0,0⟩
theorem ET(b:List α)(k:Nat)(x:α)(h:k<b.length):(b.set k x).take (k+1)=b.take k++[x]:=by rw[List.take_add_one,List.take_set_of_le (by omega),List.getElem?_set_self h];rfl
theorem I7(b:List α)(k m:Nat)(x:α)(h:k<m):(b.set k x).drop m=b.drop m:=List.drop_set_of_lt h
section
variable (X:Ext) (hX:Mine X)
include hX
theorem aaq(l:List Rt)(M:l.length<=1000000)(a:Nat)(E:0<a)(K:a<l.length):∀(r:List Rt) (j k:Nat) (b:List PV),l.drop (a+j)=r->0<j->a+j<=l.length->0<k->k<=a+j-1->b.length=l.length->b.drop (a+j-1)=(encR l).drop (a+j-1) ->
    ∀ acc:List Rt,b.take k=encR acc->acc.length=k->∃ h:List PV,L tab (run tab X) 75 [.arr true kR (encR l)] [.lp [1,1,0,1,0],.lp [1,0,0,1,0,1,0,1,0]] (ig 0 l.length (k:Int) a (l.length-a) (j:Int) b)=some ([.slice 100000 4 0 (acc.length+(Ei (gr l (a+j-1)) r).length)],[.arr true kR h])/\h.take (acc.length+(Ei (gr l (a+j-1)) r).length)=encR (acc++Ei (gr l (a+j-1)) r):=by
  have _:=hX;intro r;induction r with
  | nil =>
   intro j k b s F u D t w hd acc d c;have v:a+j=l.length:=by have:=congrArg List.length s;grind
   refine⟨patch b (0+k) (List.replicate (((l.length:Int)-(k:Int)).toNat) (PV.agg [.bool false,.str ⟨#[]⟩,.bool false,.str ⟨#[]⟩])),?_,?_⟩
   . refine L_of ?_;rw[lS,show ltI ((j:Nat):Int) ((l.length-a:Nat):Int)=false from yL (by omega),qCf];have g:leI ((k:Nat):Int) (l.length:Int)=true:=decide_eq_true (by omega);have q:leI (l.length:Int) (l.length:Int)=true:=decide_eq_true (by omega);rw[le0,g,q];simp only[qBs,qCt];rw[show(((k:Nat):Int)-0).toNat=k by omega,Ei,List.length_nil,Nat.add_zero,c,qIt];rfl
   . rw[Ei,List.append_nil,List.length_nil,Nat.add_zero,c,<- d,qNz];unfold patch;grind
  | cons x r B =>
   intro j k b s F u D t w hd acc d c;have v:a+j<l.length:=by grind
   have C:gr l (a+j)=x:=by grind[qLb,List.head?_drop]
   have hnext:l.drop (a+(j+1))=r:=by rw[<- Nat.add_assoc,<- List.tail_drop,s];rfl
   have A:b.getD (a+j) .nil=lM x:=by rw[I5 hd (by omega),pq l (by omega),C]
   have z:b.getD (a+(j-1)) .nil=lM (gr l (a+j-1)):=by rw[show a+(j-1)=a+j-1 by omega,I5 hd (by omega),pq l (by omega)]
   have y:IntKind.i64.wrap ((j:Int)-1)=((j-1:Nat):Int):=by rw[wrap_eq (by omega) (by omega)];omega
   have g:ltI ((j:Nat):Int) ((l.length-a:Nat):Int)=true:=sG (by omega);have q:ltI ((j-1:Nat):Int) ((l.length-a:Nat):Int)=true:=sG (by omega);have G:ltI ((k:Nat):Int) (l.length:Int)=true:=sG (by omega);have o:b.drop (a+(j+1)-1)=(encR l).drop (a+(j+1)-1):=by have:=congrArg (λm=>List.drop 1 m) hd;grind[List.drop_drop]
   have n:gr l (a+(j+1)-1)=x:=by rw[show a+(j+1)-1=a+j by omega,C]
   rw[Ei];by_cases p:x=gr l (a+j-1)
   . rw[if_pos p];obtain⟨h,f,e⟩:=B (j+1) k b hnext (by omega) (by omega) D (by omega) w o acc d c;rw[n,p]at f e;refine⟨h,?_,e⟩;refine L_of ?_;rw[lS,g,qCt,y];simp only[le0,g,q,qBs,qCt,qIt,A,z,Gl,decide_eq_true p,qBt,qCf,fH (show j<=9000000000000000000 by omega)];exact f
   . rw[if_neg p];have J:(b.set k (lM x)).take (k+1)=encR (acc++[x]):=by rw[ET _ _ _ (by omega),d];simp[encR]
     obtain⟨h,f,e⟩:=B (j+1) (k+1) (b.set k (lM x)) hnext (by omega) (by omega) (by omega) (by omega) (by rw[List.length_set];exact w) (by rw[I7 _ _ _ _ (by omega)];exact o) (acc++[x]) J (by simp[c]);rw[n]at f e;have I:(acc++[x]).length+(Ei x r).length=acc.length+(x::Ei x r).length:=by simp;omega
     have H:acc++[x]++Ei x r=acc++x::Ei x r:=by simp
     rw[I]at f e;rw[H]at e;refine⟨h,?_,e⟩;refine L_of ?_;rw[lS,g,qCt,y];simp only[le0,g,q,G,qBs,qCt,qIt,A,z,Gl,decide_eq_false p,qBf,qNz,fH (show j<=9000000000000000000 by omega),fH (show k<=9000000000000000000 by omega),FD];exact f
theorem aar(l:List Rt)(t:l.length<=1000000):∀(r:List Rt) (k:Nat),l.drop k=r->0<k->k<=l.length->Ej l=l.take k ++ Ei (gr l (k-1)) r ->
    ∃ d:List PV,L tab (run tab X) 75 [.arr true kR (encR l)] [.lp [1,1,0,1,0]] (xk 0 l.length (k:Int) (encR l))=some ([.slice 100000 4 0 (Ej l).length],[.arr true kR d])/\d.take (Ej l).length=encR (Ej l):=by
  intro r;induction r with
  | nil =>
   intro k m o n a;have b:k=l.length:=by have:=congrArg List.length m;grind
   have e:Ej l=l:=by rw[a,Ei,List.append_nil,b,List.take_length]
   refine⟨encR l,?_,by rw[e,<- wI,List.take_length]⟩;refine L_of ?_;rw[Af,yL (by omega),qCf,e]
  | cons x r s =>
   intro k m o n a;have b:k<l.length:=by grind
   have g:gr l k=x:=by grind[qLb,List.head?_drop]
   have p:IntKind.i64.wrap ((k:Int)-1)=((k-1:Nat):Int):=by rw[wrap_eq (by omega) (by omega)];omega
   have h:ltI ((k:Nat):Int) (l.length:Int)=true:=sG b;have q:ltI ((k-1:Nat):Int) (l.length:Int)=true:=sG (by omega);have hnext:l.drop (k+1)=r:=by rw[<- List.tail_drop,m];rfl
   by_cases c:x=gr l (k-1)
   . rw[Ei,if_pos c]at a;have w:(encR l).take k=encR (l.take k):=by simp[encR]
     obtain⟨d,j,f⟩:=aaq X hX l t k o b r 1 k (encR l) hnext (by omega) (by omega) o (by omega) (wI l) rfl (l.take k) w (by simp;omega);rw[show k+1-1=k by omega,g,c,<- a,<- qLp,<- a]at f;rw[show k+1-1=k by omega,g,c,<- qLp,<- a]at j;refine⟨d,?_,f⟩;refine L_of ?_;have v:leI ((k:Nat):Int) (l.length:Int)=true:=decide_eq_true (by omega);have u:leI (l.length:Int) (l.length:Int)=true:=decide_eq_true (by omega);rw[Af,h,qCt,p];simp only[le0,h,q,v,u,qBs,qCt,qIt,qNz,pq l b,pq l (show k-1<l.length by omega),Gl,g,decide_eq_true c];grind
   . rw[Ei,if_neg c]at a;obtain⟨d,j,f⟩:=s (k+1) hnext (by omega) (by omega) (by grind);refine⟨d,?_,f⟩;refine L_of ?_;rw[Af,h,qCt,p];simp only[le0,h,q,qBs,qCt,qIt,qNz,pq l b,pq l (show k-1<l.length by omega),Gl,g,decide_eq_false c,qCf,fH (show k<=9000000000000000000 by omega)];exact j
theorem c75(l:List Rt)(f:l.length<=1000000):∃ a:List PV,run tab X 75 [.slice 100000 4 0 l.length] [.arr true kR (encR l)]=some ([.slice 100000 4 0 (Ej l).length],[.arr true kR a])/\a.take (Ej l).length=encR (Ej l):=by
 by_cases b:l.length<2
 . have e:Ej l=l:=by
     match l,b with
     |[],_=>rfl
     |[x],_=>rfl
     | _::_::_,h=>simp at h;omega
   refine⟨encR l,run_of (hX _ rfl) ?_,by rw[e,<- wI,List.take_length]⟩;rw[e75,show ltI (l.length:Int) 2=true from decide_eq_true (by omega),qCt,e]
 . obtain ⟨a,d,c⟩:=aar X hX l f (l.drop 1) 1 rfl (by omega) (by omega) (by
     cases l with
     | nil=>simp at b
     | cons x r=>rfl)
   refine⟨a,run_of (hX _ rfl) ?_,c⟩;rw[e75,show ltI (l.length:Int) 2=false from decide_eq_false (by omega),qCf];exact d
end
end
end Go.Skm.Fen
