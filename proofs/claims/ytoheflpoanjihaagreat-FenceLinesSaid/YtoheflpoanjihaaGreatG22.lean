import Derived.Test.YtoheflpoanjihaaGreatG19
import Derived.Test.YtoheflpoanjihaaGreatEqd
set_option linter.all false
namespace Go.Skm.Fen
open Go Go.Skm
section
theorem MI(v:V3):PV.agg [Av (((encV v).cell 0).toInt),Av (((encV v).cell 1).toInt),Av (((encV v).cell 2).toInt)]=encV v:=rfl
theorem Rf(l:List V3)(i:Nat)(v:V3):(encL l).set i (encV v)=encL (l.set i v):=by simp[encL,List.map_set]
theorem Hl(l:List V3){i:Nat}(h:i<l.length):(encL l).getD i .nil=encV (gt l i):=by grind[encL]
theorem PO(a b:V3)(p m q:List V3):((p++a::m++b::q).set p.length b).set (p.length+1+m.length) a=p++b::m++a::q:=by grind
section
variable (X:Ext) (hX:Mine X)
include hX
theorem l89(o n:Nat)(b0:List PV)(C:o+n<=1000000):∀(k:Nat) (m:List V3),m.length=k->∀(p q:List V3),p.length+q.length+m.length=o+n->p.length+m.length<=o+n->o<=p.length->q.length+o=p.length ->
    L tab (run tab X) 89 [.arr true kV3 b0] [.lp [1,0]] (IB o n ((p.length-o:Nat):Int) ((p.length-o+m.length:Nat)-1:Int) (encL (p++m++q)))=some ([],[.arr true kV3 (encL (p++m.reverse++q))]):=by
  have _:=hX;intro k;induction k using Nat.strongRecOn with
  | ind k u =>
   intro m j p q l s D h4
   match hmm:m with
   |[] =>refine L_of ?_;rw[Me,show ltI ((p.length-o:Nat):Int) ((p.length-o+([]:List V3).length:Nat)-1:Int)=false from decide_eq_false (by simp;omega),qCf];rfl
   |[a] =>refine L_of ?_;rw[Me,show ltI ((p.length-o:Nat):Int) ((p.length-o+[a].length:Nat)-1:Int)=false from decide_eq_false (by simp),qCf];rfl
   | a::b::r =>
    obtain⟨c,z,w⟩:∃ c z,b::r=c++[z]:=⟨(b::r).dropLast,(b::r).getLast (by simp),(List.dropLast_concat_getLast (by simp)).symm⟩;rw[w]at j l s ⊢;have f:(a::(c++[z])).length=c.length+2:=by simp
    rw[f]at j l s ⊢;have v:((p.length-o+(c.length+2):Nat):Int)-1=((p.length-o+c.length+1:Nat):Int):=by omega
    have h:IntKind.i64.wrap (((p.length-o:Nat):Int)+1)=((p.length-o+1:Nat):Int):=dL (by omega);have g:IntKind.i64.wrap (((p.length-o+c.length+1:Nat):Int)-1)=((p.length-o+1+c.length:Nat):Int)-1:=by rw[wrap_eq (by omega) (by omega)];omega
    have B:q.length+o=p.length:=h4;have A:p++a::(c++[z])++q=p++a::c++z::q:=by simp
    have y:gt (p++a::c++z::q) (o+(p.length-o))=a:=by simp_all
    have x:gt (p++a::c++z::q) (o+(p.length-o+c.length+1))=z:=by rw[show o+(p.length-o+c.length+1)=p.length+(c.length+1) by omega];simp
    have e:o+(p.length-o)<(p++a::c++z::q).length:=by simp;omega
    have d:o+(p.length-o+c.length+1)<(p++a::c++z::q).length:=by simp;omega
    have i:p.length-o+c.length+1<n:=by omega
    refine L_of ?_;rw[v,A,Me,show ltI ((p.length-o:Nat):Int) ((p.length-o+c.length+1:Nat):Int)=true from decide_eq_true (by omega),qCt];rw[rng i,qCt,rng (show p.length-o<n by omega),qCt,qCt,qCt,h,g];simp only[qIt,Hl _ e,Hl _ d,y,x,MI,Rf];have t:((p++a::c++z::q).set (o+(p.length-o)) z).set (o+(p.length-o+c.length+1)) a=p++z::c++a::q:=by rw[show o+(p.length-o)=p.length by omega,show o+(p.length-o+c.length+1)=p.length+1+c.length by omega];exact PO a z p c q
    rw[t];have oP:=u c.length (by omega) c rfl (p++[z]) (a::q) (by simp;omega) (by simp;omega) (by simp;omega) (by simp;omega);rw[show(p++[z]).length-o=p.length-o+1 by simp;omega]at oP;rw[show p++[z]++c++a::q=p++z::c++a::q by simp,show p++[z]++c.reverse++a::q=p++(a::(c++[z])).reverse++q by simp]at oP;exact oP
theorem c89(a:V3)(r:List V3)(c:r.length<=999999):run tab X 89 [.slice 100000 3 1 r.length] [.arr true kV3 (encL (a::r))]=some ([],[.arr true kV3 (encL (a::r.reverse))]):=
 run_of (hX _ rfl) (by have b:=l89 X hX 1 r.length (encL (a::r)) (by omega) r.length r rfl [a] [] (by simp) (by simp) (by simp) (by simp);rw[e89,wrap_eq (by omega) (by omega)];grind)
end
end
section
variable {i:Nat}{a b c d:V3}{z:Int}
abbrev kR:List Kd:=[.bool,.str,.bool,.str]
def encR(l:List Rt):List PV:=l.map mX
theorem yA(l:List Rt):(encR l).length=l.length:=by simp[encR]
theorem Ro(l:List Rt)(h:i<l.length)(d:Rt):(encR l).getD i .nil=mX (l.getD i d):=by grind[encR]
theorem zQ(l:List Rt):((encR l).drop 0).take l.length=encR l:=by rw[qLy,<- yA l,List.take_length]
def AZ(ps:List (Int × Int)):List PV:=ps.map λp=>.agg [Av p.1,Av p.2]
abbrev gp(ps:List (Int × Int))(i:Nat):Int × Int:=ps.getD i (0,0)
theorem PY(e:List (Int × Int))(h:i<e.length):(AZ e).getD i .nil=.agg [Av (gp e i).1,Av (gp e i).2]:=by grind[AZ]
def zS(l:List Rt)(p:Int × Int):List Rt:=if 0<=(low p.1 p.2).n/\(low p.1 p.2).n<=(low p.1 p.2).d then l++[low p.1 p.2]else l
def nG(l:List Rt)(ps:List (Int × Int)):List Rt:=ps.foldl zS l
theorem Kv(l:List Rt)(p:Int × Int):(zS l p).length<=l.length+1:=by grind[zS]
def I43(z:Int):Prop:=-35184372088832<=z/\z<=35184372088832
def uG(a b c d:V3):Int:=(b.x-a.x)*(d.y-c.y)-(b.y-a.y)*(d.x-c.x)
def jX(a b c d:V3):List (Int × Int):=
 if uG a b c d=0 then(if area a b c=0 then [(pU a b c,xq a b),(pU a b d,xq a b)]else [])else [(uG a c c d,uG a b c d)]
theorem yY(j:iy a)(h:iy b)(g:iy c)(hd:iy d):I43 (uG a b c d):=by obtain⟨f,y1⟩:=jD j h;obtain⟨e,y2⟩:=jD g hd;have l:=lD f y2;have k:=lD y1 e;grind[I43,uG]
theorem Kw(j:iy a)(h:iy b)(g:iy c)(hd:iy d):IntKind.i64.wrap ((IntKind.i64.wrap ((IntKind.i64.wrap (b.x-a.x))*(IntKind.i64.wrap (d.y-c.y))))-(IntKind.i64.wrap ((IntKind.i64.wrap (b.y-a.y))*(IntKind.i64.wrap (d.x-c.x)))))=uG a b c d:=by obtain⟨f,y1⟩:=jD j h;obtain⟨e,y2⟩:=jD g hd;have l:=lD f y2;have k:=lD y1 e;rw[wrap_eq (x:=b.x-a.x) (by omega) (by omega),wrap_eq (x:=d.x-c.x) (by omega) (by omega),wrap_eq (x:=b.y-a.y) (by omega) (by omega),wrap_eq (x:=d.y-c.y) (by omega) (by omega),wrap_eq (x:=(b.x-a.x)*_) (by omega) (by omega),wrap_eq (x:=(b.y-a.y)*_) (by omega) (by omega),wrap_eq (by omega) (by omega)];rfl
theorem Ot(h:I43 z):-9223372036854775808<=z/\z<=9223372036854775807:=by unfold I43 at h;omega
theorem Rq(h:I43 z):okW z:=(FM h).1
theorem xw{p:V3}(f:iy a)(e:iy b)(hp:iy p):I43 (pU a b p):=(ds f e hp).dot
theorem Ei(h:¬(a.x=b.x/\a.y=b.y)):0<xq a b:=by
 have l:=sq_bd (b.x-a.x);have k:=sq_bd (b.y-a.y);have g:∀ z:Int,z*z=0->z=0:=λz j=>by rcases Int.mul_eq_zero.1 j with h | h<;>exact h
 have e:xq a b=(b.x-a.x)*(b.x-a.x)+(b.y-a.y)*(b.y-a.y):=rfl;rcases Int.lt_or_le 0 (xq a b)with f | f
 . exact f
 . exact absurd ⟨by have:=g _ (show(b.x-a.x)*(b.x-a.x)=0 by omega);omega,by have:=g _ (show(b.y-a.y)*(b.y-a.y)=0 by omega);omega⟩ h
theorem FT(g:iy a)(f:iy b)(j:iy c)(hd:iy d)(k:¬(a.x=b.x/\a.y=b.y)):(jX a b c d).length<=2/\∀ p∈jX a b c d,I43 p.1/\I43 p.2/\p.2≠0:=by
 have hp:=Ei k;have b1:=xw g f f;unfold jX;split
 . split
   . refine⟨by simp,λp e=>?_⟩;simp only[List.mem_cons,List.not_mem_nil,or_false]at e;rcases e with rfl | rfl
     . exact⟨xw g f j,b1,by show xq a b≠0;omega⟩
     . exact⟨xw g f hd,b1,by show xq a b≠0;omega⟩
   simp
 . next h =>refine⟨by simp,λp e=>?_⟩;simp only[List.mem_cons,List.not_mem_nil,or_false]at e;subst e;exact⟨yY g j j hd,yY g f j hd,h⟩
def zG(a b:V3)(l:List Rt)(es:List jW):List Rt:=es.foldl (λl e=>nG l (jX a b e.1 e.2)) l
theorem Ru{l:List Rt}{p:Int × Int}{r:Rt}(h:r∈zS l p):r∈l\/(r=low p.1 p.2/\0<=r.n/\r.n<=r.d):=by unfold zS at h;grind
section
variable (X:Ext) (hX:Mine X)
include hX
theorem c73(hB:Words X)(x y:Rt)(g:x.ok)(f:y.ok):run tab X 73 [.p (mX x),.p (mX y)] []=some ([Ab (x.n*y.d-y.n*x.d).sign],[]):=
 run_of (hX _ rfl) (by have e:=c62 X hX hB x.n x.d y.n y.d g f;rw[eR,eR]at e;rw[mX,mX,eR,eR,e73,e];rfl)
variable (hB:Bits X)
include hB
abbrev I8(o n:Nat)(b:List PV):List Blk:=[.box [.slice 99999 4 o n],.arr true [.bool,.str,.bool,.str] b]
theorem abV(t:List Rt)(e:List (Int × Int))(hp:∀ p∈e,I43 p.1/\I43 p.2/\p.2≠0)(F:e.length<=1000):∀(r:List (Int × Int)) (i:Nat) (l:List Rt),e.drop i=r->i<=e.length->l.length<=1000000+i ->
    L tab (run tab X) 133 (I8 0 t.length (encR t)) [.lp [1,0]] (wW (AZ e) ((e.length:Nat):Int) (i:Int) 0 l.length (encR l))=some ([],I8 0 (nG l r).length (encR (nG l r))):=by
  have one:∀ a b:Int,I43 a->I43 b->b≠0->(low a b).ok:=λa b B A C=>FK (Rq B) (Rq A) C;intro r;induction r with
  | nil =>
   intro i l j y _;have f:i=e.length:=by have:=congrArg List.length j;grind
   refine L_of ?_;rw[N7,xO (by omega),qCf];rfl
  | cons p r v =>
   intro i l j y G;have f:i<e.length:=by grind
   have w:gp e i=p:=by grind[qLb,List.head?_drop]
   have x:p∈e:=by grind
   obtain⟨s,q,o⟩:=hp p x;have k:=one p.1 p.2 s q o;have g:(AZ e).length=e.length:=by simp[AZ]
   have oP:=v (i+1) (zS l p) (by rw[<- List.tail_drop,j];rfl) (by omega) (by have:=Kv l p;omega);have h:nG l (p::r)=nG (zS l p) r:=rfl;refine L_of ?_;rw[N7,rZ f,qCt];simp only[g,rng f,qCt,qIt,PY e f,w];show(run tab X 134 [Ab p.1,Ab p.2] []).bind _=_;rw[Rn X hX hB p.1 p.2 (Ot s) (Ot q) o,qOb];simp only[qLh,List.tail_cons,pv_p,toInt_int,dL (show i<=9000000000000000000 by omega)];rw[show((0:Int)==0)=true from rfl,qCt];show(run tab X 109 [.p (eW (low p.1 p.2).n)] []).bind _=_;rw[c109 X hX _ k.1,qOb];simp only[qLh,pv_p,toInt_int,AU];rw[h];unfold zS at oP ⊢;by_cases m:0<=(low p.1 p.2).n
   . rw[decide_eq_true m,qCt];show(run tab X 135 [.p (eW (low p.1 p.2).n),.p (eW (low p.1 p.2).d)] []).bind _=_;rw[abW X hX _ _ k.1 k.2.1,qOb];simp only[qLh,pv_p,toInt_int,AX];by_cases u:(low p.1 p.2).n<=(low p.1 p.2).d
     . rw[decide_eq_true (by omega),qCt,if_pos ⟨m,u⟩];rw[if_pos ⟨m,u⟩]at oP;have E:leN (l.length+1) 2147483648=true:=decide_eq_true (by omega);have D:encR (l++[low p.1 p.2])=encR l++[mX (low p.1 p.2)]:=by simp[encR]
       rw[E,qCt,zQ];rw[D,qLp]at oP;exact oP
     grind
   grind
theorem abX(l:List Rt)(g:l.length<=1000000)(e:List (Int × Int))(hp:∀ p∈e,I43 p.1/\I43 p.2/\p.2≠0)(f:e.length<=1000):run tab X 133 [.p (.list true [.int .i64,.int .i64] (AZ e)),.ptr 100000 0 0] (I8 0 l.length (encR l))=some ([],I8 0 (nG l e).length (encR (nG l e))):=
 run_of (hX _ rfl) (by have h:=abV X hX hB l e hp f e 0 l rfl (by omega) (by omega);grind[abt,AZ])
theorem c72(l:List Rt)(s:l.length<=1000000)(a b c d:V3)(g:iy a)(f:iy b)(j:iy c)(hd:iy d)(n:¬(a.x=b.x/\a.y=b.y)):run tab X 72 [.slice 99999 4 0 l.length,.p (encV a),.p (encV b),.p (encV c),.p (encV d)] [.log false [],.arr true kR (encR l)]=some ([.fresh true kR (encR (nG l (jX a b c d)))],[]):=
 run_of (hX _ rfl) (by
  obtain⟨u,r⟩:=FT g f j hd n;have q:=abX X hX hB l s (jX a b c d) r (by omega);have o:=c96 X hX a b c g.up f.up j.up;have t:∀ e:List Rt,(((varXs (I8 0 e.length (encR e))).drop ((varV (I8 0 e.length (encR e))).sOff)).take ((varV (I8 0 e.length (encR e))).sLen))=encR e:=λe=>zQ e;rw[encV,encV,encV]at o;rw[encV,encV,encV,encV,e72,Kw g f j hd,Kw g j j hd,xu g f j,xu g f f,xu g f hd];rw[show pU a b b=xq a b from rfl];unfold jX at q ⊢;by_cases m:uG a b c d=0
  . rw[if_pos m]at q ⊢;rw[show(uG a b c d != 0)=false from by rw[m];rfl,qCf,o,qOb];simp only[qLh,pv_p,toInt_int];by_cases k:area a b c=0
    . rw[if_pos k]at q ⊢;rw[show(jR a b c==0)=true from by unfold jR;rw[k];rfl,qCt];show(run tab X 133 [.p (.list true [.int .i64,.int .i64] (AZ [(pU a b c,xq a b),(pU a b d,xq a b)])),.ptr 100000 0 0] (I8 0 l.length (encR l))).bind _=_;grind
    . rw[if_neg k]at q ⊢;have:jR a b c≠0:=by unfold jR;intro h;exact k (AP.1 h)
      rw[show(jR a b c==0)=false from beq_eq_false_iff_ne.2 this,qCf];rw[zQ];rfl
  . rw[if_neg m]at q ⊢;rw[show(uG a b c d != 0)=true from bne_iff_ne.2 m,qCt];show(run tab X 133 [.p (.list true [.int .i64,.int .i64] (AZ [(uG a c c d,uG a b c d)])),.ptr 100000 0 0] (I8 0 l.length (encR l))).bind _=_;grind)
end
end
section
variable {x y:Rt}{a b:Int}{l:List Rt}
theorem zH:∀{l m:List Nat},(∀ x∈l,x<256)->(∀ x∈m,x<256)->l.map UInt8.ofNat=m.map UInt8.ofNat->l=m
 |[],[],_,_,_=>rfl
 |[],_::_,_,_,h=>by simp at h
 | _::_,[],_,_,h=>by simp at h
 | x::l,y::m,hl,hm,h=>by
  simp only[List.map_cons,List.cons.injEq]at h;have e:=zH (λz c=>hl z (by simp[c])) (λz c=>hm z (by simp[c])) h.2;have d:x%256=y%256:=by have:=congrArg UInt8.toNat h.1;simpa using this
  have a:=hl x (by simp);have b:=hm y (by simp);grind
theorem Ut{n m:Nat}(h:mQ n=mQ m):n=m:=by
 unfold mQ at h;have g:=congrArg (λb:ByteArray=>b.data.toList) h;simp only[]at g;have d:∀ k,∀ x∈FU k,x<256:=λk x c=>by rw[FU,List.mem_reverse]at c;exact Dig.sF (by decide) k x c
 have f:FU n=FU m:=zH (d n) (d m) g;unfold FU at f;have e:=congrArg List.reverse f;rw[List.reverse_reverse,List.reverse_reverse]at e;have h4:=congrArg (Dig.val 256) e;rwa[Dig.lH (by decide),Dig.lH (by decide)]at h4
theorem V5(a b:ByteArray):(a==b)=true↔a=b:=by
 constructor
 . intro h;have h':(a.data==b.data)=true:=h;have c:=beq_iff_eq.1 h';cases a;cases b;simp_all
 . rintro rfl;show(a.data==a.data)=true;simp
theorem eqW{x y:Int}:(decide (x<0)==decide (y<0)&&(mQ x.natAbs==mQ y.natAbs&&true))=decide (x=y):=by
 rw[Bool.and_true,Bool.eq_iff_iff,qBa,qDa,beq_iff_eq,V5,decide_eq_decide];constructor
 . rintro ⟨d,c⟩;have:=Ut c;omega
 grind
theorem Iy(x y:Rt):(((((mX x).cell 0).toBool==((mX y).cell 0).toBool)&&((((mX x).cell 1).toStr==((mX y).cell 1).toStr)&&true))&&(((((mX x).cell 2).toBool==((mX y).cell 2).toBool)&&((((mX x).cell 3).toStr==((mX y).cell 3).toStr)&&true))&&true))=decide (x=y):=by
 have e:=eqW (x:=x.n) (y:=y.n);have c:=eqW (x:=x.d) (y:=y.d);show((decide (x.n<0)==decide (y.n<0)&&(mQ x.n.natAbs==mQ y.n.natAbs&&true))&&((decide (x.d<0)==decide (y.d<0)&&(mQ x.d.natAbs==mQ y.d.natAbs&&true))&&true))=_;rw[e,c,Bool.and_true,<- Bool.decide_and];apply decide_eq_decide.2;constructor
 . rintro ⟨h,h'⟩;cases x;cases y;simp_all
 grind
def Cn(r:Rt):Prop:=0<r.d/\Int.gcd r.n r.d=1
theorem Ou{c:Int}(h:Int.gcd a b=1)(hd:b ∣ a*c):b ∣ c:=by
 have e:b.natAbs ∣ a.natAbs*c.natAbs:=by rw[<- Int.natAbs_mul];exact Int.natAbs_dvd_natAbs.2 hd
 have d:Nat.Coprime b.natAbs a.natAbs:=by rw[Nat.coprime_comm];exact h
 exact Int.natAbs_dvd_natAbs.1 (d.dvd_of_dvd_mul_left e)
theorem Vh(g:Cn x)(f:Cn y)(h:x.n*y.d=y.n*x.d):x=y:=by
 obtain⟨k,c⟩:=g;obtain⟨y1,y2⟩:=f;have j:x.d ∣ y.d:=Ou c ⟨y.n,by rw[h,Int.mul_comm]⟩;have i:y.d ∣ x.d:=Ou y2 ⟨x.n,by rw[<- h,Int.mul_comm]⟩;have e:x.d=y.d:=Int.dvd_antisymm (by omega) (by omega) j i;have m:x.n=y.n:=by rw[e]at h;exact Int.eq_of_mul_eq_mul_right (by omega) h
 cases x;cases y;simp_all
theorem gcd_dvd(a b:Int):((Int.gcd a b:Nat):Int) ∣ a/\((Int.gcd a b:Nat):Int) ∣ b:=⟨Int.gcd_dvd_left ..,Int.gcd_dvd_right ..⟩
theorem Rw(h:b≠0):Cn (low a b):=by
 refine⟨rC h,?_⟩;have hp:0<Int.gcd a b:=Int.gcd_pos_of_ne_zero_right _ h;have d:(sV a b).natAbs=a.natAbs / Int.gcd a b:=by unfold sV;rw[Int.natAbs_mul,Int.natAbs_ediv_of_dvd (gcd_dvd a b).1];grind
 have c:(rQ a b).natAbs=b.natAbs / Int.gcd a b:=rfl;show Nat.gcd (sV a b).natAbs (rQ a b).natAbs=1;rw[d,c];exact Nat.coprime_div_gcd_div_gcd hp
def nK(x y:Rt):Prop:=x.n*y.d<y.n*x.d
instance (x y:Rt):Decidable (nK x y):=by unfold nK;infer_instance
theorem qg{z:Rt}(g:0<x.d)(f:0<y.d)(e:0<z.d)(i:¬ nK y x)(h:¬ nK z y):¬ nK z x:=by
 unfold nK at *;have a:x.n*y.d<=y.n*x.d:=by omega
 have b:y.n*z.d<=z.n*y.d:=by omega
 have j:=Int.mul_le_mul_of_nonneg_right a (by omega:0<=z.d);have b1:=Int.mul_le_mul_of_nonneg_right b (by omega:0<=x.d);have c:x.n*z.d*y.d<=z.n*x.d*y.d:=by grind
 simp_all
def nH(x:Rt):List Rt->List Rt
 |[]=>[x]
 | y::r=>if nK y x then y::nH x r else x::y::r
def zy(l:List Rt):List Rt:=l.foldr nH []
def NY(l:List Rt):Prop:=l.Pairwise λx y=>¬ nK y x
theorem yZ(x:Rt)(l:List Rt):(nH x l).Perm (x::l):=by
 induction l with
 | nil=>exact .refl _
 | cons y r c=>grind[nH]
theorem wu(l:List Rt):(zy l).Perm l:=by
 induction l with
 | nil=>exact .refl _
 | cons x r c=>exact(yZ x _).trans (c.cons x)
theorem Ky(i:0<x.d)(f:∀ y∈l,0<y.d)(h:NY l):NY (nH x l):=by
 induction l with
 | nil=>exact List.pairwise_cons.2 ⟨λ_ h=>by simp at h,List.Pairwise.nil⟩
 | cons y r g =>
  obtain⟨k,j⟩:=List.pairwise_cons.1 h;unfold nH;split
  . next hc =>refine List.pairwise_cons.2 ⟨λz c=>?_,g (λz c=>f z (by simp[c])) j⟩;rcases List.mem_cons.1 ((yZ x r).mem_iff.1 c)with rfl | c;all_goals grind[nK]
  . next hc =>
    refine List.pairwise_cons.2 ⟨λz c=>?_,h⟩;rcases List.mem_cons.1 c with rfl | e
    . exact hc
    . exact qg i (f y (by simp)) (f z c) hc (k z e)
theorem Kz(e:∀ y∈l,0<y.d):NY (zy l):=by
 induction l with
 | nil=>exact List.Pairwise.nil
 | cons x r f =>refine Ky (e x (by simp)) (λy c=>e y ?_) (f λy c=>e y (by simp[c]));exact List.mem_cons_of_mem _ ((wu r).mem_iff.1 c)
theorem FV:∀{l m:List Rt},l.Perm m->NY l->NY m->(∀ x∈l,Cn x)->l=m
 |[],m,hp,_,_,_=>by rw[List.nil_perm.1 hp]
 | x::l,[],hp,_,_,_=>by simp at hp
 | x::l,y::m,hp,hl,hm,hc=>by
  obtain⟨i,g⟩:=List.pairwise_cons.1 hl;obtain⟨f,d⟩:=List.pairwise_cons.1 hm;have k:=hp.mem_iff.1 (show x∈x::l by simp);have c:=hp.mem_iff.2 (show y∈y::m by simp);have e:x=y:=by
   rcases List.mem_cons.1 k with h | h
   . exact h
   . rcases List.mem_cons.1 c with h' | h'
     . exact h'.symm
     . have a:=f x h;have b:=i y h';unfold nK at a b;exact Vh (hc x (by simp)) (hc y c) (by omega)
  subst e;rw[FV (hp.cons_inv) g d λz j=>hc z (by simp[j])]
def CG(x:Rt):List Rt->List Rt
 |[]=>[]
 | y::r=>if y=x then CG x r else y::CG y r
def CJ:List Rt->List Rt
 |[]=>[]
 | x::r=>x::CG x r
theorem Uu(x:Rt)(l:List Rt):(CG x l).length<=l.length:=by
 induction l generalizing x with
 | nil=>simp[CG]
 | cons y r c=>grind[CG]
end
section
variable {α:Type}{i:Nat}
abbrev Vr:={r:Rt // r.ok}
def JM(l:List Vr):List PV:=encR (l.map (·.1))
structure Sorts (X:Ext):Prop where
 s:∀ l:List Vr,l.length<=100000->∃ m:List Vr,m.Perm l/\NY (m.map (·.1))/\run tab X 74 [.slice 100000 4 0 l.length,.p (.fn 73 [])] [.arr true kR (JM l)]=some ([],[.arr true kR (JM m)])
theorem KC{a b:List α}{k:Nat}(h:a.drop k=b.drop k)(c:k<=i)(d:α):a.getD i d=b.getD i d:=by have e:=congrArg (λl=>l.getD (i-k) d) h;grind
abbrev gr(l:List Rt)(i:Nat):Rt:=l.getD i ⟨0,0⟩
theorem qx(l:List Rt)(h:i<l.length):(encR l).getD i .nil=mX (gr l i):=Ro l h ⟨0,0⟩
theorem GU(b:List α)(k:Nat)(x:α)(h:k<b.length):(b.set k x).take (k+1)=b.take k++[x]:=by rw[List.take_add_one,List.take_set_of_le (by omega),List.getElem?_set_self h];rfl
theorem KD(b:List α)(k m:Nat)(x:α)(h:k<m):(b.set k x).drop m=b.drop m:=List.drop_set_of_lt h
section
variable (X:Ext) (hX:Mine X)
include hX
theorem abY(l:List Rt)(M:l.length<=1000000)(a:Nat)(E:0<a)(K:a<l.length):∀(r:List Rt) (j k:Nat) (b:List PV),l.drop (a+j)=r->0<j->a+j<=l.length->0<k->k<=a+j-1->b.length=l.length->b.drop (a+j-1)=(encR l).drop (a+j-1) ->
    ∀ acc:List Rt,b.take k=encR acc->acc.length=k->∃ h:List PV,L tab (run tab X) 75 [.arr true kR (encR l)] [.lp [1,1,0,1,0],.lp [1,0,0,1,0,1,0,1,0]] (iR 0 l.length (k:Int) a (l.length-a) (j:Int) b)=some ([.slice 100000 4 0 (acc.length+(CG (gr l (a+j-1)) r).length)],[.arr true kR h])/\h.take (acc.length+(CG (gr l (a+j-1)) r).length)=encR (acc++CG (gr l (a+j-1)) r):=by
  have _:=hX;intro r;induction r with
  | nil =>
   intro j k b s F u D t w hd acc d c;have v:a+j=l.length:=by have:=congrArg List.length s;grind
   refine⟨patch b (0+k) (List.replicate (((l.length:Int)-(k:Int)).toNat) (PV.agg [.bool false,.str ⟨#[]⟩,.bool false,.str ⟨#[]⟩])),?_,?_⟩
   . refine L_of ?_;rw[mV,show ltI ((j:Nat):Int) ((l.length-a:Nat):Int)=false from xO (by omega),qCf];have g:leI ((k:Nat):Int) (l.length:Int)=true:=decide_eq_true (by omega);have q:leI (l.length:Int) (l.length:Int)=true:=decide_eq_true (by omega);rw[le0,g,q];simp only[qBs,qCt];rw[show(((k:Nat):Int)-0).toNat=k by omega,CG,List.length_nil,Nat.add_zero,c,qIt];rfl
   . rw[CG,List.append_nil,List.length_nil,Nat.add_zero,c,<- d,qNz];unfold patch;grind
  | cons x r B =>
   intro j k b s F u D t w hd acc d c;have v:a+j<l.length:=by grind
   have C:gr l (a+j)=x:=by grind[qLb,List.head?_drop]
   have hnext:l.drop (a+(j+1))=r:=by rw[<- Nat.add_assoc,<- List.tail_drop,s];rfl
   have A:b.getD (a+j) .nil=mX x:=by rw[KC hd (by omega),qx l (by omega),C]
   have z:b.getD (a+(j-1)) .nil=mX (gr l (a+j-1)):=by rw[show a+(j-1)=a+j-1 by omega,KC hd (by omega),qx l (by omega)]
   have y:IntKind.i64.wrap ((j:Int)-1)=((j-1:Nat):Int):=by rw[wrap_eq (by omega) (by omega)];omega
   have g:ltI ((j:Nat):Int) ((l.length-a:Nat):Int)=true:=rZ (by omega);have q:ltI ((j-1:Nat):Int) ((l.length-a:Nat):Int)=true:=rZ (by omega);have G:ltI ((k:Nat):Int) (l.length:Int)=true:=rZ (by omega);have o:b.drop (a+(j+1)-1)=(encR l).drop (a+(j+1)-1):=by have:=congrArg (λm=>List.drop 1 m) hd;grind[List.drop_drop]
   have n:gr l (a+(j+1)-1)=x:=by rw[show a+(j+1)-1=a+j by omega,C]
   rw[CG];by_cases p:x=gr l (a+j-1)
   . rw[if_pos p];obtain⟨h,f,e⟩:=B (j+1) k b hnext (by omega) (by omega) D (by omega) w o acc d c;rw[n,p]at f e;refine⟨h,?_,e⟩;refine L_of ?_;rw[mV,g,qCt,y];simp only[le0,g,q,qBs,qCt,qIt,A,z,Iy,decide_eq_true p,qBt,qCf,dL (show j<=9000000000000000000 by omega)];exact f
   . rw[if_neg p];have J:(b.set k (mX x)).take (k+1)=encR (acc++[x]):=by rw[GU _ _ _ (by omega),d];simp[encR]
     obtain⟨h,f,e⟩:=B (j+1) (k+1) (b.set k (mX x)) hnext (by omega) (by omega) (by omega) (by omega) (by rw[List.length_set];exact w) (by rw[KD _ _ _ _ (by omega)];exact o) (acc++[x]) J (by simp[c]);rw[n]at f e;have I:(acc++[x]).length+(CG x r).length=acc.length+(x::CG x r).length:=by simp;omega
     have H:acc++[x]++CG x r=acc++x::CG x r:=by simp
     rw[I]at f e;rw[H]at e;refine⟨h,?_,e⟩;refine L_of ?_;rw[mV,g,qCt,y];simp only[le0,g,q,G,qBs,qCt,qIt,A,z,Iy,decide_eq_false p,Bool.not_false,qNz,dL (show j<=9000000000000000000 by omega),dL (show k<=9000000000000000000 by omega),Hy];exact f
theorem abZ(l:List Rt)(t:l.length<=1000000):∀(r:List Rt) (k:Nat),l.drop k=r->0<k->k<=l.length->CJ l=l.take k ++ CG (gr l (k-1)) r ->
    ∃ d:List PV,L tab (run tab X) 75 [.arr true kR (encR l)] [.lp [1,1,0,1,0]] (yP 0 l.length (k:Int) (encR l))=some ([.slice 100000 4 0 (CJ l).length],[.arr true kR d])/\d.take (CJ l).length=encR (CJ l):=by
  intro r;induction r with
  | nil =>
   intro k m o n a;have b:k=l.length:=by have:=congrArg List.length m;grind
   have e:CJ l=l:=by rw[a,CG,List.append_nil,b,List.take_length]
   refine⟨encR l,?_,by rw[e,<- yA,List.take_length]⟩;refine L_of ?_;rw[BU,xO (by omega),qCf,e]
  | cons x r s =>
   intro k m o n a;have b:k<l.length:=by grind
   have g:gr l k=x:=by grind[qLb,List.head?_drop]
   have p:IntKind.i64.wrap ((k:Int)-1)=((k-1:Nat):Int):=by rw[wrap_eq (by omega) (by omega)];omega
   have h:ltI ((k:Nat):Int) (l.length:Int)=true:=rZ b;have q:ltI ((k-1:Nat):Int) (l.length:Int)=true:=rZ (by omega);have hnext:l.drop (k+1)=r:=by rw[<- List.tail_drop,m];rfl
   by_cases c:x=gr l (k-1)
   . rw[CG,if_pos c]at a;have w:(encR l).take k=encR (l.take k):=by simp[encR]
     obtain⟨d,j,f⟩:=abY X hX l t k o b r 1 k (encR l) hnext (by omega) (by omega) o (by omega) (yA l) rfl (l.take k) w (by simp;omega);rw[show k+1-1=k by omega,g,c,<- a,<- qLp,<- a]at f;rw[show k+1-1=k by omega,g,c,<- qLp,<- a]at j;refine⟨d,?_,f⟩;refine L_of ?_;have v:leI ((k:Nat):Int) (l.length:Int)=true:=decide_eq_true (by omega);have u:leI (l.length:Int) (l.length:Int)=true:=decide_eq_true (by omega);rw[BU,h,qCt,p];simp only[le0,h,q,v,u,qBs,qCt,qIt,qNz,qx l b,qx l (show k-1<l.length by omega),Iy,g,decide_eq_true c];grind
   . rw[CG,if_neg c]at a;obtain⟨d,j,f⟩:=s (k+1) hnext (by omega) (by omega) (by grind);refine⟨d,?_,f⟩;refine L_of ?_;rw[BU,h,qCt,p];simp only[le0,h,q,qBs,qCt,qIt,qNz,qx l b,qx l (show k-1<l.length by omega),Iy,g,decide_eq_false c,qCf,dL (show k<=9000000000000000000 by omega)];exact j
theorem c75(l:List Rt)(f:l.length<=1000000):∃ a:List PV,run tab X 75 [.slice 100000 4 0 l.length] [.arr true kR (encR l)]=some ([.slice 100000 4 0 (CJ l).length],[.arr true kR a])/\a.take (CJ l).length=encR (CJ l):=by
 by_cases b:l.length<2
 . have e:CJ l=l:=by
     match l,b with
     |[],_=>rfl
     |[x],_=>rfl
     | _::_::_,h=>simp at h;omega
   refine⟨encR l,run_of (hX _ rfl) ?_,by rw[e,<- yA,List.take_length]⟩;rw[e75,show ltI (l.length:Int) 2=true from decide_eq_true (by omega),qCt,e]
 . obtain ⟨a,d,c⟩:=abZ X hX l f (l.drop 1) 1 rfl (by omega) (by omega) (by
     cases l with
     | nil=>simp at b
     | cons x r=>rfl)
   refine⟨a,run_of (hX _ rfl) ?_,c⟩;rw[e75,show ltI (l.length:Int) 2=false from decide_eq_false (by omega),qCf];exact d
end
end
end Go.Skm.Fen
