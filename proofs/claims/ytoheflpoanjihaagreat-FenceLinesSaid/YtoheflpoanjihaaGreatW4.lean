import Derived.Test.YtoheflpoanjihaaGreatEqs
import Derived.Test.YtoheflpoanjihaaGreatEqt
import Derived.Test.YtoheflpoanjihaaGreatSkmE
import Derived.Test.YtoheflpoanjihaaGreatSkmF
set_option linter.all false
namespace Go.Skm.Dig
variable {b d n:Nat}{l:List Nat}
def val(b:Nat):List Nat->Nat
 |[]=>0
 | d::r=>d+b*val b r
theorem val_append(b:Nat):∀(l m:List Nat),val b (l++m)=val b l+b^l.length*val b m
 |[],m=>by simp[val]
 | d::l,m=>by rw[List.cons_append,val,val,val_append b l m,List.length_cons,Nat.pow_succ,Nat.mul_add,Nat.mul_comm (b^l.length) b,Nat.mul_assoc];omega
theorem val_one(b d:Nat):val b [d]=d:=by simp[val]
theorem jg(b:Nat)(l:List Nat)(d:Nat):val b (l++[d])=val b l+b^l.length*d:=by rw[val_append,val_one]
theorem vH(b:Nat):∀ n,val b (List.replicate n 0)=0
 | 0=>rfl
 | n+1=>by rw[List.replicate_succ,val,vH b n];simp
def ok(b:Nat)(l:List Nat):Prop:=∀ d∈l,d<b
theorem pY(b:Nat):ok b []:=λd h=>by simp at h
theorem oQ:ok b (d::l)↔d<b/\ok b l:=by simp[ok]
theorem iG{m:List Nat}:ok b (l++m)↔ok b l/\ok b m:=by simp only[ok,List.mem_append];grind
theorem kW{b:Nat}:∀{l:List Nat},ok b l->val b l<b^l.length
 |[],_=>by simp[val]
 | d::l,h=>by obtain⟨e,c⟩:=oQ.1 h;have:=kW c;have a:b*(val b l+1)<=b*b^l.length:=Nat.mul_le_mul_left b this;rw[Nat.mul_add,Nat.mul_one]at a;rw[val,List.length_cons,Nat.pow_succ,Nat.mul_comm (b^l.length) b];omega
def aW(b n:Nat):List Nat:=if _h:n=0\/b<2 then []else n%b::aW b (n / b)
termination_by n
decreasing_by exact Nat.div_lt_self (by omega) (by omega)
theorem dF(b:Nat):aW b 0=[]:=by rw[aW];simp
theorem xQ(c:2<=b)(a:0<n):aW b n=n%b::aW b (n / b):=by grind[aW]
theorem lH(c:2<=b)(n:Nat):val b (aW b n)=n:=by
 induction n using Nat.strongRecOn with
 | ind n a =>
  by_cases h:n=0
  . subst h;rw[dF];rfl
  . rw[xQ c (by omega),val,a (n / b) (Nat.div_lt_self (by omega) (by omega))];exact Nat.mod_add_div n b
theorem sF(c:2<=b)(n:Nat):ok b (aW b n):=by
 induction n using Nat.strongRecOn with
 | ind n a =>
  by_cases h:n=0
  . subst h;rw[dF];exact pY b
  . rw[xQ c (by omega)];exact oQ.2 ⟨Nat.mod_lt _ (by omega),a _ (Nat.div_lt_self (by omega) (by omega))⟩
def tight(l:List Nat):Prop:=∀ d,l.getLast?=some d->d≠0
theorem kP(a:2<=b):aW b n=[]↔n=0:=by
 constructor
 . intro h;have:=lH a n;rw[h]at this;exact this.symm
 . rintro rfl;exact dF b
theorem qc(c:2<=b)(n:Nat):tight (aW b n):=by
 induction n using Nat.strongRecOn with
 | ind n g =>
  by_cases h:n=0
  . subst h;rw[dF];intro d h;simp at h
  . rw[xQ c (by omega)];intro d hd;by_cases f:n / b=0
    . rw[f,dF]at hd;simp at hd;subst hd;have:=Nat.mod_add_div n b;grind
    . have a:aW b (n / b)≠[]:=λe=>f ((kP c).1 e);obtain⟨x,r,i⟩:=List.exists_cons_of_ne_nil a;refine g (n / b) (Nat.div_lt_self (by omega) (by omega)) d ?_;grind
theorem zJ(h:tight (d::l)):tight l:=λe a=>h e (by grind)
theorem Eb{b:Nat}(a:2<=b):∀{l:List Nat},tight l->l≠[]->0<val b l
 |[],_,h=>absurd rfl h
 |[d],h,_=>by have:=h d rfl;rw[val_one];omega
 | d::x::l,h,_=>by have:=Eb a (zJ h) (by simp);rw[val];have:=Nat.mul_pos (show 0<b by omega) this;omega
theorem Ez{b:Nat}(a:2<=b):∀{l:List Nat},ok b l->tight l->aW b (val b l)=l
 |[],_,_=>by rw[val,dF]
 | d::l,h,ht=>by
  obtain⟨c,e⟩:=oQ.1 h;have hp:=Eb a ht (by simp);rw[xQ a hp,val];have g:(d+b*val b l)%b=d:=by rw[Nat.add_mul_mod_self_left,Nat.mod_eq_of_lt c]
  have f:(d+b*val b l) / b=val b l:=by rw[Nat.add_mul_div_left _ _ (by omega),Nat.div_eq_of_lt c,Nat.zero_add]
  rw[g,f,Ez a e (zJ ht)]
theorem Iq(a:2<=b)(f:ok b l)(e:tight l)(c:val b l=n):l=aW b n:=by rw[<- c,Ez a f e]
theorem lI{k:Nat}(g:2<=b)(h:n<b^k):(aW b n).length<=k:=by
 have f:=qc g n;have a:=lH g n;cases i:aW b n with
 | nil=>simp
 | cons x r =>
  rcases List.eq_nil_or_concat (x::r)with e |⟨l,d,e⟩
  . simp at e
  . rw[List.concat_eq_append]at e;rw[i,e]at f a;have hd:d≠0:=f d (by simp);rw[jg]at a;rw[e,List.length_append,List.length_singleton];by_cases c:k<=l.length
    . exfalso;have h4:b^k<=b^l.length:=Nat.pow_le_pow_right (by omega) c;have h5:b^l.length*1<=b^l.length*d:=Nat.mul_le_mul_left _ (by omega);omega
    . omega
theorem oU(a:2<=b):n<b^(aW b n).length:=by have:=kW (sF a n);rwa[lH a n]at this
theorem Af(a:2<=b)(g:0<n):b^((aW b n).length-1)<=n:=by
 have f:aW b n≠[]:=λe=>by have:=(kP a).1 e;omega
 have h:0<(aW b n).length:=List.length_pos_iff.2 f;by_cases c:b^((aW b n).length-1)<=n
 . exact c
 . have:=lI a (k:=(aW b n).length-1) (Nat.lt_of_not_le c);omega
def trim:List Nat->List Nat
 |[]=>[]
 | d::r=>match trim r with
  |[]=>if d=0 then []else [d]
  | x::s=>d::x::s
theorem JH(b:Nat):∀ l,val b (trim l)=val b l
 |[]=>rfl
 | d::r=>by
  have a:=JH b r;rw[trim,val,<- a];cases trim r with
  | nil =>
   by_cases h:d=0
   . simp[h,val]
   . simp[h,val]
  | cons x s=>rfl
theorem EC:∀ l,tight (trim l)
 |[]=>λd h=>by simp[trim]at h
 | d::r=>by
  have c:=EC r;rw[trim];cases h:trim r with
  | nil =>
   by_cases f:d=0
   . grind
   . simp[f];intro e a;simp at a;omega
  | cons x s =>rw[h]at c;intro e a;exact c e (by simpa[List.getLast?_cons_cons] using a)
theorem NR{b:Nat}:∀{l},ok b l->ok b (trim l)
 |[],h=>h
 | d::r,h=>by
  obtain⟨c,f⟩:=oQ.1 h;have a:=NR f;rw[trim];cases e:trim r with
  | nil =>
   by_cases g:d=0
   . grind
   . simp[g];exact oQ.2 ⟨c,pY b⟩
  | cons x s =>rw[e]at a;exact oQ.2 ⟨c,a⟩
theorem lX(a:2<=b)(e:ok b l)(c:val b l=n):trim l=aW b n:=Iq a (NR e) (EC l) ((JH b l).trans c)
theorem zK:∀ l:List Nat,trim (l++[0])=trim l
 |[]=>rfl
 | d::r=>by rw[List.cons_append,trim,zK r,trim]
theorem vw:∀{l:List Nat},tight l->trim l=l
 |[],_=>rfl
 | d::r,h=>by
  rw[trim,vw (zJ h)];cases r with
  | nil =>have:=h d rfl;simp[this]
  | cons x s=>rfl
end Go.Skm.Dig
namespace Go.Skm.Dig
variable {M N P b c d g k w x:Nat}
theorem JI(h:P+b^k*c=N+M):(P+b^k*((d+x+c)%b))+b^(k+1)*((d+x+c) / b)=(N+b^k*d)+(M+b^k*x):=by grind[Nat.pow_succ,Nat.mul_assoc,Nat.mul_add,Nat.mod_add_div]
theorem QD{a e:Nat}(h:P+M=N+b^k*c)(f:e+x+c=d+b*a):(P+b^k*e)+(M+b^k*x)=(N+b^k*d)+b^(k+1)*a:=by grind
theorem TM{B t s e:Nat}(a:0<e)(hd:e*B^k<=d)(l:w<(t*B+s+1)*B^k)(i:0<B):w / d<=(t*B+s) / e:=by
 have f:0<B^k:=Nat.pow_pos i;have h:0<d:=Nat.lt_of_lt_of_le (Nat.mul_pos a f) hd;refine(Nat.le_div_iff_mul_le a).2 ?_;have n:w / d*d<=w:=Nat.div_mul_le_self w d;have m:w / d*(e*B^k)<=w / d*d:=Nat.mul_le_mul_left _ hd;have j:w / d*e*B^k<(t*B+s+1)*B^k:=by rw[Nat.mul_assoc];omega
 have:=Nat.lt_of_mul_lt_mul_right j;omega
theorem QE(hd:0<d)(e:w / d<=g)(a:d*g<=w):g=w / d:=by have:g<=w / d:=(Nat.le_div_iff_mul_le hd).2 (by rw[Nat.mul_comm];exact a);omega
theorem QF(hd:0<d)(a:w<d*g):0<g/\w / d<=g-1:=by have e:w / d<g:=(Nat.div_lt_iff_lt_mul hd).2 (by rw[Nat.mul_comm];exact a);grind
end Go.Skm.Dig
namespace Go.Skm.Fen
open Go Go.Skm Go.Skm.Dig
section
def extB(f:Nat):Bool:=f==74||(f==87||(f==88||(f==187||(f==191||f==193))))
def Mine(X:Ext):Prop:=∀ f,extB f=false->X f=none
abbrev aX:Nat:=18446744073709551616
theorem b64:2<=aX:=by decide
abbrev kU:List Kd:=[.int .u64]
def aY(k:IntKind)(l:List Nat):List PV:=l.map λn:Nat=>.int k (n:Int)
@[simp] theorem bG(k:IntKind)(l:List Nat):(aY k l).length=l.length:=by simp[aY]
@[simp] theorem dK(k:IntKind)(l:List Nat)(i:Nat):(((aY k l).getD i .nil).cell 0).toInt=((l.getD i 0:Nat):Int):=by rw[qLb,qLb,aY,List.getElem?_map];cases l[i]?<;>rfl
theorem iO(k:IntKind)(l:List Nat)(i n:Nat):(aY k l).set i (.int k n)=aY k (l.set i n):=by simp[aY,List.map_set]
theorem iI(k:IntKind)(n:Nat):List.replicate n (PV.int k 0)=aY k (List.replicate n 0):=by simp[aY]
theorem Io(k:IntKind)(l:List Nat)(n:Nat):(aY k l).drop n=aY k (l.drop n):=by simp[aY]
theorem jv(k:IntKind)(l:List Nat)(n:Nat):(aY k l).take n=aY k (l.take n):=by simp[aY]
theorem rE(k:IntKind)(l m:List Nat):aY k l++aY k m=aY k (l++m):=by simp[aY]
theorem set_mid(a:List Nat)(k v:Nat):(a++List.replicate (k+1) 0).set a.length v=(a++[v])++List.replicate k 0:=by grind
theorem lW(b:Nat)(l:List Nat)(i:Nat):val b (l.take (i+1))=val b (l.take i)+b^i*l.getD i 0:=by
 by_cases h:i<l.length
 . rw[List.take_succ_eq_append_getElem h,jg,List.length_take,Nat.min_eq_left (by omega)];grind
 . rw[List.take_of_length_le (show l.length<=i+1 by omega),List.take_of_length_le (show l.length<=i by omega),qLb,List.getElem?_eq_none (by omega)];simp
theorem fK{b:Nat}{l:List Nat}(h:ok b l)(c:0<b)(i:Nat):l.getD i 0<b:=by
 rw[qLb];by_cases a:i<l.length
 . rw[qLd a];exact h _ (List.getElem_mem a)
 grind
theorem FZ:∀ l:List Nat,(trim l).length<=l.length
 |[]=>qNr _
 | d::r=>by have a:=FZ r;grind[trim]
theorem mG:∀ l:List Nat,l.take (trim l).length=trim l
 |[]=>rfl
 | d::r=>by have a:=mG r;grind[trim]
structure Words (X:Ext):Prop where
 mul:∀ x y:Nat,x<aX->y<aX->run tab X 187 [.p (.int .u64 x),.p (.int .u64 y)] []=some ([.p (.int .u64 ((x*y / aX:Nat):Int)),.p (.int .u64 ((x*y%aX:Nat):Int))],[])
 div:∀ h l d:Nat,h<d->l<aX->d<aX->run tab X 191 [.p (.int .u64 h),.p (.int .u64 l),.p (.int .u64 d)] []=some ([.p (.int .u64 (((h*aX+l) / d:Nat):Int)),.p (.int .u64 (((h*aX+l)%d:Nat):Int))],[])
structure Bits (X:Ext):Prop where
 w:Words X
 clone:∀ l:List Nat,l.length<=100000->run tab X 193 [.p (.list false kU (aY .u64 l))] []=some ([.fresh false kU (aY .u64 l)],[])
instance {X:Ext}:CoeOut (Bits X) (Words X):=⟨Bits.w⟩
section
variable (X:Ext) (hX:Mine X)
include hX
theorem adt(b:List Nat)(k:b.length<=2147483648)(o:Nat):∀ l,o+l<=b.length->L tab (run tab X) 113 [.arr false kU (aY .u64 b)] [.lp [1,0,0]] (Aq o l (aY .u64 b))=some ([.slice 100000 1 o (trim ((b.drop o).take l)).length],[.arr false kU (aY .u64 b)]):=by
 have _:=hX;intro l;induction l with
 | zero =>intro h;refine L_of ?_;rw[JR];rfl
 | succ l j =>
  intro h;have e:IntKind.i64.wrap (((l+1:Nat):Int)-1)=(l:Int):=by rw[wrap_eq (by omega) (by omega)];omega
  have c:l<(b.drop o).length:=by simp;omega
  have g:(b.drop o)[l]=b.getD (o+l) 0:=by grind
  refine L_of ?_;rw[JR];refine condP (show((l+1:Nat):Int) > 0 by omega) ?_;rw[e];have f:(leI (0:Int) (l:Int)&&ltI (l:Int) ((l+1:Nat):Int))=true:=by simp;omega
  have a:(leI (0:Int) (l:Int)&&(leI (l:Int) ((l+1:Nat):Int)&&leI ((l+1:Nat):Int) ((l+1:Nat):Int)))=true:=by simp;omega
  rw[f,a];simp only[qCt,qIt,dK,condE,Int.sub_zero,Nat.add_zero];rw[List.take_succ_eq_append_getElem c,g];by_cases i:b.getD (o+l) 0=0
  . grind[zK]
  . rw[if_neg (by omega),vw (λd hd=>by rw[List.getLast?_concat]at hd;exact Option.some.inj hd▸i),qLp,List.length_take,Nat.min_eq_left (by omega)];rfl
theorem JA(b:List Nat)(a:b.length<=2147483648)(o l:Nat)(h:o+l<=b.length):run tab X 113 [.slice 100000 1 o l] [.arr false kU (aY .u64 b)]=some ([.slice 100000 1 o (trim ((b.drop o).take l)).length],[.arr false kU (aY .u64 b)]):=
 run_of (hX _ rfl) (by rw[aaN];exact adt X hX b a o l h)
end
end
section
variable {b:Nat}{l:List Nat}
theorem Gz(a b c:Nat):jh false a b c=(a+b+c)%aX:=rfl
theorem GH(a b c:Nat):jA false a b c=(a+b+c) / aX:=rfl
theorem cV{B:Nat}(h:B=18446744073709551616)(a b c:Nat):jh true a b c=(a+B-b-c)%B:=by subst h;rw[jh,qCt]
theorem cC(a b c:Nat):jA true a b c=if a<b+c then 1 else 0:=by rw[jA,qCt]
theorem U3{a c:Nat}(f:a<aX)(e:b<aX)(g:c<=1):jh true a b c+b+c=a+aX*jA true a b c/\jh true a b c<aX/\jA true a b c<=1:=by have d:aX=18446744073709551616:=rfl;revert d f e;generalize aX=B;intro f e d;rw[cV d,cC];grind
theorem jE(b:Nat)(l:List Nat)(i:Nat)(h:l.length<=i):val b (l.take i)=val b l:=by rw[List.take_of_length_le h]
theorem TD{a b c:Bool}(f:a=true)(e:b=true)(d:c=true):(a&&(b&&c))=true:=by simp[f,e,d]
theorem zi(h:ok b l)(i:Nat):ok b (l.take i):=λd hd=>h d (List.mem_of_mem_take hd)
theorem O4(h:ok b l)(i:Nat):ok b (l.drop i):=λd hd=>h d (List.mem_of_mem_drop hd)
theorem BI(a:0<b)(n:Nat):ok b (List.replicate n 0):=λd hd=>by rw[List.eq_of_mem_replicate hd];exact a
section
variable (X:Ext) (hX:Mine X)
include hX
theorem qC(b:List Nat)(e:b.length<=2147483648)(c:ok aX b)(l:Nat)(d:l=b.length):((run tab X) 113 [.slice 100000 1 0 l] [.arr false kU (aY .u64 b)]).bind (λa=>some ([AV.fresh false kU ((((a.2.headD (.box [])).xs).drop ((a.1.headD .undef).sOff)).take ((a.1.headD .undef).sLen))],([]:List Blk)))=some ([.fresh false kU (aY .u64 (aW aX (val aX b)))],[]):=by subst d;rw[JA X hX b e 0 _ (by omega),qLy,List.take_length,<- lX b64 c rfl];simp[qLy,jv,mG]
theorem aak(N M:List Nat)(y:ok aX N)(z:ok aX M)(B:N.length<=100000000)(v:M.length<=N.length):∀(k i c:Nat) (a:List Nat),i+k=N.length->a.length=i->ok aX a->c<=1 ->
    val aX a+aX^i*c=val aX (N.take i)+val aX (M.take i) ->
    L tab (run tab X) 155 [] [.lp [1,1,1,1,0,1,0]] (jY (aY .u64 N) (aY .u64 M) 0 (N.length+1) c N.length i (aY .u64 (a++List.replicate (N.length+1-i) 0)))=some ([.fresh false kU (aY .u64 (aW aX (val aX N+val aX M)))],[]):=by
  intro k;induction k with
  | zero =>
   intro i c a w hp f x o;have r:i=N.length:=by omega
   subst r;refine L_of ?_;rw[Au];refine condNP (by omega) ?_;have n:(leI (0:Int) (((aY .u64 N).length:Nat):Int)&&ltI (((aY .u64 N).length:Nat):Int) ((N.length+1:Nat):Int))=true:=by simp;omega
   rw[n,qCt];simp only[bG,qIt,qNz,Nat.add_sub_cancel_left];rw[show List.replicate 1 0=List.replicate (0+1) 0 from rfl,<- hp,iO,set_mid];simp only[List.replicate_zero,List.append_nil];have j:ok aX (a++[c]):=iG.2 ⟨f,λd hd=>by rw[List.mem_singleton.1 hd];show c<18446744073709551616;omega⟩;have g:val aX (a++[c])=val aX N+val aX M:=by rw[jg,hp,o,jE _ _ _ (qNr _),jE _ _ _ v]
   rw[<- g];exact qC X hX _ (by simp;omega) j _ (by simp)
  | succ k t =>
   intro i c a w hp f x o;refine L_of ?_;rw[Au];refine condP (by omega) ?_;have hd:N.getD i 0<aX:=fK y (by decide) i;have u:M.getD i 0<aX:=fK z (by decide) i;have n:(leI (0:Int) (i:Int)&&ltI (i:Int) (((aY .u64 N).length:Nat):Int))=true:=by simp;omega
   have h:(leI (0:Int) (i:Int)&&ltI (i:Int) ((N.length+1:Nat):Int))=true:=by simp;omega
   have s:IntKind.i64.wrap ((i:Int)+1)=((i+1:Nat):Int):=by rw[wrap_eq (by omega) (by omega)];omega
   have e:L tab (run tab X) 155 [] [.lp [1,1,1,1,0,1,0]] (jY (aY .u64 N) (aY .u64 M) 0 (N.length+1) (jA false (N.getD i 0) (M.getD i 0) c:Nat) N.length (i+1:Nat) ((aY .u64 (a++List.replicate (N.length+1-i) 0)).set i (.int .u64 (jh false (N.getD i 0) (M.getD i 0) c:Nat))))=some ([.fresh false kU (aY .u64 (aW aX (val aX N+val aX M)))],[]):=by rw[show N.length+1-i=(N.length-i)+1 by omega,<- hp,iO,set_mid,hp,Gz,GH,show N.length-i=N.length+1-(i+1) by omega];refine t (i+1) _ _ (by omega) (by simp[hp]) (iG.2 ⟨f,λd hd=>by rw[List.mem_singleton.1 hd];exact qNm _ (by decide)⟩) (by show _ / 18446744073709551616<=1;have:N.getD i 0<18446744073709551616:=hd;have:M.getD i 0<18446744073709551616:=u;omega) ?_;rw[jg,hp,lW,lW,show N.getD i 0+M.getD i 0+c=N.getD i 0+M.getD i 0+c from rfl];exact JI o
   have m:(leI (0:Int) ((c:Nat):Int)&&leI ((c:Nat):Int) (1:Int))=true:=by simp;omega
   by_cases q:(i:Int)<((aY .u64 M).length:Nat)
   . refine condP q ?_;have p:(leI (0:Int) (i:Int)&&ltI (i:Int) (((aY .u64 M).length:Nat):Int))=true:=by simp at q ⊢;omega
     rw[p,n,qCt,qCt];simp only[qIt,dK,s,qNz];rw[m,TD (by simp) (by simp) rfl,h];exact e
   . refine condNP q ?_;have A:M.getD i 0=0:=by simp_all
     rw[A]at e;rw[n,qCt];simp only[qIt,dK,s,qNz];rw[m,TD (by simp) (by simp) rfl,h];exact e
theorem adw(N M:List Nat)(d:ok aX N)(e:ok aX M)(a:N.length<=100000000)(c:M.length<=100000000):run tab X 155 [.p (.list false kU (aY .u64 N)),.p (.list false kU (aY .u64 M))] []=some ([.fresh false kU (aY .u64 (aW aX (val aX N+val aX M)))],[]):=
 run_of (hX _ rfl) (by
  have f:∀ N:List Nat,N.length<=100000000->(leI (0:Int) (((N.length+1:Nat):Int))&&(leI (((N.length+1:Nat):Int)) (((N.length+1:Nat):Int))&&leI (((N.length+1:Nat):Int)) (2147483648:Int)))=true:=by intro N h;simp;omega
  have w:∀ N:List Nat,N.length<=100000000->IntKind.i64.wrap (((N.length:Nat):Int)+(1:Int))=((N.length+1:Nat):Int):=by intro N h;rw[wrap_eq (by omega) (by omega)];omega
  rw[aa5];simp only[bG];by_cases h:(N.length:Int)<M.length
  . refine condP h ?_;rw[w M c,f M c,qCt,qIt,iI,Nat.add_comm (val aX N)];exact aak X hX M N e d c (by omega) M.length 0 0 [] (by omega) rfl (pY _) (by omega) rfl
  . refine condNP h ?_;rw[w N a,f N a,qCt,qIt,iI];exact aak X hX N M d e a (by omega) N.length 0 0 [] (by omega) rfl (pY _) (by omega) rfl)
end
end
section
variable {M N l:List Nat}{a b k:Nat}
def zA(a b:Nat):Int:=if a<b then -1 else if b<a then 1 else 0
def cmpL(b:Nat)(N M:List Nat):Int:=if N.length=M.length then zA (val b N) (val b M)else(N.length:Int)-M.length
theorem kT(h:k<l.length):l.drop k=l.getD k 0::l.drop (k+1):=by simp_all
theorem zn(b:Nat)(l:List Nat)(k:Nat)(h:k<l.length):val b l=val b (l.take k)+b^k*(l.getD k 0+b*val b (l.drop (k+1))):=by
 conv=>lhs;rw[<- List.take_append_drop k l]
 rw[val_append,List.length_take,Nat.min_eq_left (by omega),kT h];rfl
theorem Et(f:ok b N)(c:k<N.length)(d:k<M.length)(e:N.drop (k+1)=M.drop (k+1))(h:N.getD k 0<M.getD k 0):val b N<val b M:=by have g:=kW (zi f k);rw[List.length_take,Nat.min_eq_left (by omega)]at g;rw[zn b N k c,zn b M k d,e];have i:b^k*(N.getD k 0+b*val b (M.drop (k+1))+1)<=b^k*(M.getD k 0+b*val b (M.drop (k+1))):=Nat.mul_le_mul_left _ (by omega);grind
theorem Jy(h:a<b):zA a b=-1:=by rw[zA,if_pos h]
theorem Jz(h:b<a):zA a b=1:=by rw[zA,if_neg (by omega),if_pos h]
theorem Ik(a:Nat):zA a a=0:=by rw[zA,if_neg (by omega),if_neg (by omega)]
theorem Gs(c:2<=b)(f:ok b l)(d:Dig.tight l)(e:l≠[]):b^(l.length-1)<=val b l:=by have:=Af c (Eb c d e);rwa[Ez c f d]at this
theorem wI(d:2<=b)(e:ok b N)(f:ok b M)(c:Dig.tight M)(h:N.length<M.length):val b N<val b M:=by have i:=kW e;have g:=Gs d f c (by intro j;rw[j]at h;simp at h);exact Nat.lt_of_lt_of_le i (Nat.le_trans (Nat.pow_le_pow_right (by omega) (by omega)) g)
theorem U4(c:2<=b)(d:ok b N)(e:ok b M)(f:Dig.tight N)(g:Dig.tight M):cmpL b N M<0↔val b N<val b M:=by
 rw[cmpL];by_cases h:N.length=M.length
 . grind[zA]
 . rw[if_neg h];by_cases i:N.length<M.length
   . have:=wI c d e g i;omega
   . have:=wI c e d f (show M.length<N.length by omega);omega
section
variable (X:Ext) (hX:Mine X)
include hX
theorem adG(N M:List Nat)(g:ok aX N)(h:ok aX M)(m:N.length<=100000000)(o:N.length=M.length):∀ k,k<=N.length->N.drop k=M.drop k ->
    L tab (run tab X) 156 [] [.lp [1,1,0,1,0]] (wS (aY .u64 N) (aY .u64 M) ((k:Int)-1))=some ([Ab (zA (val aX N) (val aX M))],[]):=by
  have _:=hX;intro k;induction k with
  | zero =>intro _ hd;rw[qLy,qLy]at hd;subst hd;refine L_of ?_;grind[ER,Ik]
  | succ k f =>
   intro n hd;refine L_of ?_;rw[show((k+1:Nat):Int)-1=(k:Int) by omega,ER];refine condP (by omega) ?_;have e:(leI (0:Int) (k:Int)&&ltI (k:Int) (((aY .u64 N).length:Nat):Int))=true:=by simp;omega
   have d:(leI (0:Int) (k:Int)&&ltI (k:Int) (((aY .u64 M).length:Nat):Int))=true:=by simp;omega
   have c:IntKind.i64.wrap ((k:Int)-1)=(k:Int)-1:=wrap_eq (by omega) (by omega);rw[e,d];simp only[qCt,qIt,dK,c];by_cases j:N.getD k 0<M.getD k 0
   . rw[Jy (Et g (by omega) (by omega) hd j)];grind
   . refine condNP (by omega) ?_;by_cases i:M.getD k 0<N.getD k 0
     . rw[Jz (Et h (by omega) (by omega) hd.symm i)];grind
     . refine condNP (by omega) ?_;exact f (by omega) (by rw[kT (l:=N) (k:=k) (by omega),kT (l:=M) (k:=k) (by omega),hd,show N.getD k 0=M.getD k 0 by omega])
theorem c156(N M:List Nat)(d:ok aX N)(e:ok aX M)(c:N.length<=100000000)(f:M.length<=100000000):run tab X 156 [.p (.list false kU (aY .u64 N)),.p (.list false kU (aY .u64 M))] []=some ([Ab (cmpL aX N M)],[]):=
 run_of (hX _ rfl) (by
  rw[aa6,cmpL];simp only[bG];by_cases h:N.length=M.length
  . rw[if_pos h,show(((N.length:Nat):Int) !=((M.length:Nat):Int))=false by simp[h],qCf,wrap_eq (by omega) (by omega)];exact adG X hX N M d e c h N.length (by omega) (by rw[List.drop_eq_nil_of_le (by omega),List.drop_eq_nil_of_le (by omega)])
  . rw[if_neg h,show(((N.length:Nat):Int) !=((M.length:Nat):Int))=true by simp;omega,qCt,wrap_eq (by omega) (by omega)])
theorem adH(N M:List Nat)(B:ok aX N)(C:ok aX M)(G:N.length<=100000000)(y:M.length<=N.length)(z:val aX M<=val aX N):∀(k i c:Nat) (e:List Nat),i+k=N.length->e.length=i->ok aX e->c<=1 ->
    val aX e+val aX (M.take i)=val aX (N.take i)+aX^i*c ->
    L tab (run tab X) 157 [] [.lp [1,1,1,0,1,0]] (nZ (aY .u64 N) (aY .u64 M) 0 N.length c N.length i (aY .u64 (e++List.replicate (N.length-i) 0)))=some ([.fresh false kU (aY .u64 (aW aX (val aX N-val aX M)))],[]):=by
  intro k;induction k with
  | zero =>
   intro i c e A hp f u s;have p:i=N.length:=by omega
   subst p;refine L_of ?_;rw[Dj];refine condNP (by omega) ?_;rw[Nat.sub_self,List.replicate_zero,List.append_nil];rw[jE _ _ _ (qNr _),jE _ _ _ y]at s;have D:=kW f;rw[hp]at D;have q:c=0:=by grind
   subst q;have h:val aX e=val aX N-val aX M:=by omega
   rw[<- h];exact qC X hX _ (by omega) f _ hp.symm
  | succ k w =>
   intro i c e A hp f u s;refine L_of ?_;rw[Dj];refine condP (by omega) ?_;have hd:N.getD i 0<aX:=fK B (by decide) i;have x:M.getD i 0<aX:=fK C (by decide) i;have t:(leI (0:Int) (i:Int)&&ltI (i:Int) (((aY .u64 N).length:Nat):Int))=true:=by simp;omega
   have j:(leI (0:Int) (i:Int)&&ltI (i:Int) ((N.length:Nat):Int))=true:=by simp;omega
   have r:IntKind.i64.wrap ((i:Int)+1)=((i+1:Nat):Int):=by rw[wrap_eq (by omega) (by omega)];omega
   have g:L tab (run tab X) 157 [] [.lp [1,1,1,0,1,0]] (nZ (aY .u64 N) (aY .u64 M) 0 N.length (jA true (N.getD i 0) (M.getD i 0) c:Nat) N.length (i+1:Nat) ((aY .u64 (e++List.replicate (N.length-i) 0)).set i (.int .u64 (jh true (N.getD i 0) (M.getD i 0) c:Nat))))=some ([.fresh false kU (aY .u64 (aW aX (val aX N-val aX M)))],[]):=by obtain⟨F,s2,v⟩:=U3 hd x u;rw[show N.length-i=(N.length-(i+1))+1 by omega,<- hp,iO,set_mid,hp];refine w (i+1) _ _ (by omega) (by simp[hp]) (iG.2 ⟨f,λd hd=>by rw[List.mem_singleton.1 hd];exact s2⟩) v ?_;grind[jg,lW]
   have m:(leI (0:Int) ((c:Nat):Int)&&leI ((c:Nat):Int) (1:Int))=true:=by simp;omega
   by_cases o:(i:Int)<((aY .u64 M).length:Nat)
   . refine condP o ?_;have n:(leI (0:Int) (i:Int)&&ltI (i:Int) (((aY .u64 M).length:Nat):Int))=true:=by simp at o ⊢;omega
     rw[n,t,qCt,qCt];simp only[qIt,dK,r,qNz];rw[m,TD (by simp) (by simp) rfl,j];exact g
   . refine condNP o ?_;have E:M.getD i 0=0:=by simp_all
     rw[E]at g;rw[t,qCt];simp only[qIt,dK,r,qNz];rw[m,TD (by simp) (by simp) rfl,j];exact g
theorem c157(N M:List Nat)(f:ok aX N)(g:ok aX M)(d:N.length<=100000000)(e:M.length<=N.length)(c:val aX M<=val aX N):run tab X 157 [.p (.list false kU (aY .u64 N)),.p (.list false kU (aY .u64 M))] []=some ([.fresh false kU (aY .u64 (aW aX (val aX N-val aX M)))],[]):=
 run_of (hX _ rfl) (by
  have h:(leI (0:Int) (((N.length:Nat):Int))&&(leI (((N.length:Nat):Int)) (((N.length:Nat):Int))&&leI (((N.length:Nat):Int)) (2147483648:Int)))=true:=by simp;omega
  rw[aa7];simp only[bG];rw[h,qCt,qIt,iI];exact adH X hX N M f g d e c N.length 0 0 [] (by omega) rfl (pY _) (by omega) rfl)
end
end
section
variable {i n v:Nat}{l:List Nat}
theorem aal{x:Int}(b:0<=x)(a:x<18446744073709551616):IntKind.u64.wrap x=x:=by show x%2^64=x;omega
theorem jB(h:n<aX):IntKind.u64.wrap (n:Int)=(n:Int):=aal (by omega) (by have:n<18446744073709551616:=h;omega)
theorem aam(n:Nat):leI 0 (n:Int)=true:=decide_eq_true (Int.natCast_nonneg n)
theorem Vu(a b:Nat):(leI 0 (a:Int)&&(leI 0 (b:Int)&&(leI 0 0&&leI 0 1)))=true:=TD (aam a) (aam b) rfl
theorem Eu(b v:Nat):∀(l:List Nat) (i:Nat),i<l.length->val b (l.set i v)+b^i*l.getD i 0=val b l+b^i*v
 |[],i,h=>by simp at h
 | d::r,0,_=>by show v+b*val b r+b^0*d=d+b*val b r+b^0*v;grind
 | d::r,i+1,h=>by have a:=Eu b v r i (by simpa using h);show d+b*val b (r.set i v)+b^(i+1)*r.getD i 0=d+b*val b r+b^(i+1)*v;grind
theorem ND{b:Nat}(h:ok b l)(c:v<b)(i:Nat):ok b (l.set i v):=λd hd=>by
 rcases List.mem_or_eq_of_mem_set hd with a | a
 . exact h d a
 omega
theorem TF{B x y o c:Nat}(b:x<B)(a:y<B)(d:o<B)(f:c<B) :
    ((x*y%B+o+0)%B+c+0)%B+B*(x*y / B+(x*y%B+o+0) / B+((x*y%B+o+0)%B+c+0) / B)=x*y+o+c /\
    x*y / B+(x*y%B+o+0) / B+((x*y%B+o+0)%B+c+0) / B<B:=by
  have q:=Nat.mod_add_div (x*y) B;have p:=Nat.mod_add_div (x*y%B+o+0) B;have m:=Nat.mod_add_div ((x*y%B+o+0)%B+c+0) B;have e:((x*y%B+o+0)%B+c+0)%B+B*(x*y / B+(x*y%B+o+0) / B+((x*y%B+o+0)%B+c+0) / B)=x*y+o+c:=by grind
  refine⟨e,?_⟩;rcases Nat.lt_or_ge (x*y / B+(x*y%B+o+0) / B+((x*y%B+o+0)%B+c+0) / B) B with h | h
  . exact h
  . exfalso;have j:B*B<=x*y+o+c:=by have:=Nat.mul_le_mul_left B h;omega
    have g:x*y<=(B-1)*(B-1):=Nat.mul_le_mul (by omega) (by omega);obtain⟨k,rfl⟩:∃ k,B=k+1:=⟨B-1,by omega⟩;grind
theorem TG(h:i<l.length):(l++List.replicate n 0).getD i 0=l.getD i 0:=by grind
theorem U5(h:i<l.length):(l++List.replicate n 0).set i v=l.set i v++List.replicate n 0:=by grind
section
variable (X:Ext) (hX:Mine X) (hB:Words X)
include hX hB
theorem aan(N M:List Nat)(F:ok aX M)(i n:Nat)(E:i<n)(J:n+M.length<=100000000)(x:Nat)(w:x<aX)(t:Int)
    (r:List AV × List Blk):∀(k j c:Nat) (a:List Nat),j+k=M.length->a.length=i+M.length->ok aX a->c<aX ->
    (∀(f:Nat) (b:List Nat),b.length=i+M.length->ok aX b->f<aX->val aX b+aX^(i+M.length)*f=val aX a+aX^(i+j)*c+aX^(i+j)*(x*val aX (M.drop j)) ->
      L tab (run tab X) 173 [] [.lp [1,1,0,1,0]] (um (aY .u64 M) 0 (n+M.length) (aY .u64 N) t (i+1:Nat) (aY .u64 (b++[f]++List.replicate (n-i-1) 0)))=some r) ->
    L tab (run tab X) 173 [] [.lp [1,1,0,1,0],.lp [1,1,0,0,1,1,0,1,0]] (jw (aY .u64 M) 0 (n+M.length) i x c (aY .u64 N) t i (aY .u64 M) M.length j (aY .u64 (a++List.replicate (n-i) 0)))=some r:=by
  have _:=hX;intro k;induction k with
  | zero =>
   intro j c a D hp d q K;have p:j=M.length:=by omega
   subst p;refine L_of ?_;rw[qJ];refine condNP (by omega) ?_;have h:IntKind.i64.wrap ((i:Int)+1)=((i+1:Nat):Int):=by rw[wrap_eq (by omega) (by omega)];omega
   have g:IntKind.i64.wrap ((i:Int)+((M.length:Nat):Int))=((i+M.length:Nat):Int):=by rw[wrap_eq (by omega) (by omega)];omega
   simp only[bG];rw[g];have o:(leI (0:Int) ((i+M.length:Nat):Int)&&ltI ((i+M.length:Nat):Int) ((n+M.length:Nat):Int))=true:=by simp;omega
   rw[o,qCt,h,qIt,qNz,show n-i=(n-i-1)+1 by omega,<- hp,iO,set_mid];exact K c a hp d q (by rw[List.drop_length];simp[val])
  | succ k A =>
   intro j c a D hp d q K;refine L_of ?_;rw[qJ];refine condP (by omega) ?_;have o:(leI (0:Int) (j:Int)&&ltI (j:Int) (((aY .u64 M).length:Nat):Int))=true:=by simp;omega
   have u:M.getD j 0<aX:=fK F (by decide) j;have B:a.getD (i+j) 0<aX:=fK d (by decide) _;have h:IntKind.i64.wrap ((j:Int)+1)=((j+1:Nat):Int):=by rw[wrap_eq (by omega) (by omega)];omega
   have g:IntKind.i64.wrap ((i:Int)+(j:Int))=((i+j:Nat):Int):=by rw[wrap_eq (by omega) (by omega)];omega
   rw[o,qCt];simp only[qIt,dK,h,g,hB.mul x _ w u,qOb,qLh,List.tail_cons,pv_p,toInt_int,qNz];have m:(leI (0:Int) ((i+j:Nat):Int)&&ltI ((i+j:Nat):Int) ((n+M.length:Nat):Int))=true:=by simp;omega
   obtain⟨z,s2⟩:=TF w u B q;have C:x*M.getD j 0%aX<aX:=qNm _ (by decide);rw[m,qCt,TG (by omega),Vu,qCt,Vu,qCt,qCt];simp only[qIt,Int.toNat_zero,Gz,GH];have y:x*M.getD j 0 / aX+(x*M.getD j 0%aX+a.getD (i+j) 0+0) / aX<aX:=Nat.lt_of_le_of_lt (Nat.le_add_right _ _) s2;rw[<- Int.natCast_add,jB y,<- Int.natCast_add,jB s2,iO,U5 (by omega)];refine A (j+1) _ _ (by omega) (by simpa using hp) (ND d (qNm _ (by decide)) _) s2 ?_;intro f b I H G h4;refine K f b I H G ?_;rw[h4];have s:=Eu aX (((x*M.getD j 0%aX+a.getD (i+j) 0+0)%aX+c+0)%aX) a (i+j) (by omega);rw[kT (l:=M) (k:=j) (by omega)];have e:aX^(i+j)*(((x*M.getD j 0%aX+a.getD (i+j) 0+0)%aX+c+0)%aX+aX*(x*M.getD j 0 / aX+(x*M.getD j 0%aX+a.getD (i+j) 0+0) / aX+((x*M.getD j 0%aX+a.getD (i+j) 0+0)%aX+c+0) / aX))=aX^(i+j)*(x*M.getD j 0+a.getD (i+j) 0+c):=by rw[z]
   revert e s;generalize ((x*M.getD j 0%aX+a.getD (i+j) 0+0)%aX+c+0)%aX=lo;generalize x*M.getD j 0 / aX+(x*M.getD j 0%aX+a.getD (i+j) 0+0) / aX+((x*M.getD j 0%aX+a.getD (i+j) 0+0)%aX+c+0) / aX=E;intro s e;show _=_+aX^(i+j)*(x*(M.getD j 0+aX*val aX (M.drop (j+1))));grind
theorem adI(N M:List Nat)(m:ok aX N)(o:ok aX M)(s:N.length+M.length<=100000000):∀(k i:Nat) (a:List Nat),i+k=N.length->a.length=i+M.length->ok aX a ->
    val aX a=val aX (N.take i)*val aX M ->
    L tab (run tab X) 173 [] [.lp [1,1,0,1,0]] (um (aY .u64 M) 0 (N.length+M.length) (aY .u64 N) N.length i (aY .u64 (a++List.replicate (N.length-i) 0)))=some ([.fresh false kU (aY .u64 (aW aX (val aX N*val aX M)))],[]):=by
  intro k;induction k with
  | zero =>
   intro i a j hp b c;have e:i=N.length:=by omega
   subst e;refine L_of ?_;rw[ET];refine condNP (by omega) ?_;rw[Nat.sub_self,List.replicate_zero,List.append_nil];rw[jE _ _ _ (qNr _)]at c;rw[<- c];exact qC X hX _ (by omega) b _ hp.symm
  | succ k g =>
   intro i a j hp b c;refine L_of ?_;rw[ET];refine condP (by omega) ?_;have h:(leI (0:Int) (i:Int)&&ltI (i:Int) (((aY .u64 N).length:Nat):Int))=true:=by simp;omega
   rw[h,qCt];simp only[qIt,dK,bG];refine aan X hX hB N M o i N.length (by omega) (by omega) _ (fK m (by decide) i) _ _ M.length 0 0 a (by omega) hp b (by decide) ?_;intro t f r q p h4;rw[show N.length-i-1=N.length-(i+1) by omega];refine g (i+1) _ (by omega) (by simp[r];omega) (iG.2 ⟨q,λd hd=>by rw[List.mem_singleton.1 hd];exact p⟩) ?_;simp_all[jg,lW,Nat.mul_zero,Nat.add_zero,qLy,Nat.add_mul,Nat.mul_assoc]
theorem c173(N M:List Nat)(b:ok aX N)(c:ok aX M)(a:N.length+M.length<=100000000):run tab X 173 [.p (.list false kU (aY .u64 N)),.p (.list false kU (aY .u64 M))] []=some ([.fresh false kU (aY .u64 (aW aX (val aX N*val aX M)))],[]):=
 run_of (hX _ rfl) (by
  have w:IntKind.i64.wrap (((N.length:Nat):Int)+((M.length:Nat):Int))=((N.length+M.length:Nat):Int):=by rw[wrap_eq (by omega) (by omega)];omega
  have d:(leI (0:Int) (((N.length+M.length:Nat):Int))&&(leI (((N.length+M.length:Nat):Int)) (((N.length+M.length:Nat):Int))&&leI (((N.length+M.length:Nat):Int)) (2147483648:Int)))=true:=by simp;omega
  rw[abd];simp only[bG];rw[w,d,qCt,qIt,iI,Nat.add_comm N.length M.length,<- List.replicate_append_replicate,Nat.add_comm M.length N.length];refine adI X hX hB N M b c a N.length 0 (List.replicate M.length 0) (by omega) (by simp) (BI (by decide) _) ?_;rw[vH];simp[val])
end
end
end Go.Skm.Fen
