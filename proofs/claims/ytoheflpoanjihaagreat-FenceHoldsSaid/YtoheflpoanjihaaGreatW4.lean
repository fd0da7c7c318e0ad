import Derived.Test.YtoheflpoanjihaaGreatEqs
import Derived.Test.YtoheflpoanjihaaGreatEqt
import Derived.Test.YtoheflpoanjihaaGreatSkmE
import Derived.Test.YtoheflpoanjihaaGreatSkmF
set_option linter.all false
namespace Go.Skm.Dig
variable {b d n:Nat}{l:List Nat}
def val(b:Nat):List Nat->Nat
 |[]=>0
 | d::r=>d+b*val b r
theorem val_append(b:Nat):∀(l m:List Nat),val b (l++m)=val b l+b^l.length*val b m
 |[],m=>by simp[val]
 | d::l,m=>by rw[List.cons_append,val,val,val_append b l m,List.length_cons,Nat.pow_succ,Nat.mul_add,Nat.mul_comm (b^l.length) b,Nat.mul_assoc];omega
theorem val_one(b d:Nat):val b [d]=d:=by simp[val]
theorem nR(b:Nat)(l:List Nat)(d:Nat):val b (l++[d])=val b l+b^l.length*d:=by rw[val_append,val_one]
theorem F7(b:Nat):∀ n,val b (List.replicate n 0)=0
 | 0=>rfl
 | n+1=>by rw[List.replicate_succ,val,F7 b n];simp
def ok(b:Nat)(l:List Nat):Prop:=∀ d∈l,d<b
theorem yX(b:Nat):ok b []:=λd h=>by simp at h
theorem xX:ok b (d::l)↔d<b/\ok b l:=by simp[ok]
theorem lG{m:List Nat}:ok b (l++m)↔ok b l/\ok b m:=by simp only[ok,List.mem_append];grind
theorem rU{b:Nat}:∀{l:List Nat},ok b l->val b l<b^l.length
 |[],_=>by simp[val]
 | d::l,h=>by obtain⟨e,c⟩:=xX.1 h;have:=rU c;have a:b*(val b l+1)<=b*b^l.length:=Nat.mul_le_mul_left b this;rw[Nat.mul_add,Nat.mul_one]at a;rw[val,List.length_cons,Nat.pow_succ,Nat.mul_comm (b^l.length) b];omega
def bG(b n:Nat):List Nat:=if _h:n=0\/b<2 then []else n%b::bG b (n / b)
termination_by n
decreasing_by exact Nat.div_lt_self (by omega) (by omega)
theorem gW(b:Nat):bG b 0=[]:=by rw[bG];simp
theorem Jh(c:2<=b)(a:0<n):bG b n=n%b::bG b (n / b):=by grind[bG]
theorem sO(c:2<=b)(n:Nat):val b (bG b n)=n:=by
 induction n using Nat.strongRecOn with
 | ind n a =>
  by_cases h:n=0
  . subst h;rw[gW];rfl
  . rw[Jh c (by omega),val,a (n / b) (Nat.div_lt_self (by omega) (by omega))];exact Nat.mod_add_div n b
theorem BZ(c:2<=b)(n:Nat):ok b (bG b n):=by
 induction n using Nat.strongRecOn with
 | ind n a =>
  by_cases h:n=0
  . subst h;rw[gW];exact yX b
  . rw[Jh c (by omega)];exact xX.2 ⟨Nat.mod_lt _ (by omega),a _ (Nat.div_lt_self (by omega) (by omega))⟩
def tight(l:List Nat):Prop:=∀ d,l.getLast?=some d->d≠0
theorem qZ(a:2<=b):bG b n=[]↔n=0:=by
 constructor
 . intro h;have:=sO a n;rw[h]at this;exact this.symm
 . rintro rfl;exact gW b
theorem yY(c:2<=b)(n:Nat):tight (bG b n):=by
 induction n using Nat.strongRecOn with
 | ind n g =>
  by_cases h:n=0
  . subst h;rw[gW];intro d h;simp at h
  . rw[Jh c (by omega)];intro d hd;by_cases f:n / b=0
    . rw[f,gW]at hd;simp at hd;subst hd;have:=Nat.mod_add_div n b;grind
    . have a:bG b (n / b)≠[]:=λe=>f ((qZ c).1 e);obtain⟨x,r,i⟩:=List.exists_cons_of_ne_nil a;refine g (n / b) (Nat.div_lt_self (by omega) (by omega)) d ?_;grind
theorem Np(h:tight (d::l)):tight l:=λe a=>h e (by grind)
theorem Ue{b:Nat}(a:2<=b):∀{l:List Nat},tight l->l≠[]->0<val b l
 |[],_,h=>absurd rfl h
 |[d],h,_=>by have:=h d rfl;rw[val_one];omega
 | d::x::l,h,_=>by have:=Ue a (Np h) (by simp);rw[val];have:=Nat.mul_pos (show 0<b by omega) this;omega
theorem UH{b:Nat}(a:2<=b):∀{l:List Nat},ok b l->tight l->bG b (val b l)=l
 |[],_,_=>by rw[val,gW]
 | d::l,h,ht=>by
  obtain⟨c,e⟩:=xX.1 h;have hp:=Ue a ht (by simp);rw[Jh a hp,val];have g:(d+b*val b l)%b=d:=by rw[Nat.add_mul_mod_self_left,Nat.mod_eq_of_lt c]
  have f:(d+b*val b l) / b=val b l:=by rw[Nat.add_mul_div_left _ _ (by omega),Nat.div_eq_of_lt c,Nat.zero_add]
  rw[g,f,UH a e (Np ht)]
theorem Zq(a:2<=b)(f:ok b l)(e:tight l)(c:val b l=n):l=bG b n:=by rw[<- c,UH a f e]
theorem sQ{k:Nat}(g:2<=b)(h:n<b^k):(bG b n).length<=k:=by
 have f:=yY g n;have a:=sO g n;cases i:bG b n with
 | nil=>simp
 | cons x r =>
  rcases List.eq_nil_or_concat (x::r)with e |⟨l,d,e⟩
  . simp at e
  . rw[List.concat_eq_append]at e;rw[i,e]at f a;have hd:d≠0:=f d (by simp);rw[nR]at a;rw[e,List.length_append,List.length_singleton];by_cases c:k<=l.length
    . exfalso;have h4:b^k<=b^l.length:=Nat.pow_le_pow_right (by omega) c;have h5:b^l.length*1<=b^l.length*d:=Nat.mul_le_mul_left _ (by omega);omega
    . omega
theorem xY(a:2<=b):n<b^(bG b n).length:=by have:=rU (BZ a n);rwa[sO a n]at this
theorem OB(a:2<=b)(g:0<n):b^((bG b n).length-1)<=n:=by
 have f:bG b n≠[]:=λe=>by have:=(qZ a).1 e;omega
 have h:0<(bG b n).length:=List.length_pos_iff.2 f;by_cases c:b^((bG b n).length-1)<=n
 . exact c
 . have:=sQ a (k:=(bG b n).length-1) (Nat.lt_of_not_le c);omega
def trim:List Nat->List Nat
 |[]=>[]
 | d::r=>match trim r with
  |[]=>if d=0 then []else [d]
  | x::s=>d::x::s
theorem abm(b:Nat):∀ l,val b (trim l)=val b l
 |[]=>rfl
 | d::r=>by
  have a:=abm b r;rw[trim,val,<- a];cases trim r with
  | nil =>
   by_cases h:d=0
   . simp[h,val]
   . simp[h,val]
  | cons x s=>rfl
theorem UJ:∀ l,tight (trim l)
 |[]=>λd h=>by simp[trim]at h
 | d::r=>by
  have c:=UJ r;rw[trim];cases h:trim r with
  | nil =>
   by_cases f:d=0
   . grind
   . simp[f];intro e a;simp at a;omega
  | cons x s =>rw[h]at c;intro e a;exact c e (by simpa[List.getLast?_cons_cons] using a)
theorem afk{b:Nat}:∀{l},ok b l->ok b (trim l)
 |[],h=>h
 | d::r,h=>by
  obtain⟨c,f⟩:=xX.1 h;have a:=afk f;rw[trim];cases e:trim r with
  | nil =>
   by_cases g:d=0
   . grind
   . simp[g];exact xX.2 ⟨c,yX b⟩
  | cons x s =>rw[e]at a;exact xX.2 ⟨c,a⟩
theorem uF(a:2<=b)(e:ok b l)(c:val b l=n):trim l=bG b n:=Zq a (afk e) (UJ l) ((abm b l).trans c)
theorem Nq:∀ l:List Nat,trim (l++[0])=trim l
 |[]=>rfl
 | d::r=>by rw[List.cons_append,trim,Nq r,trim]
theorem Fb:∀{l:List Nat},tight l->trim l=l
 |[],_=>rfl
 | d::r,h=>by
  rw[trim,Fb (Np h)];cases r with
  | nil =>have:=h d rfl;simp[this]
  | cons x s=>rfl
end Go.Skm.Dig
namespace Go.Skm.Dig
variable {M N P b c d g k w x:Nat}
theorem abn(h:P+b^k*c=N+M):(P+b^k*((d+x+c)%b))+b^(k+1)*((d+x+c) / b)=(N+b^k*d)+(M+b^k*x):=by grind[Nat.pow_succ,Nat.mul_assoc,Nat.mul_add,Nat.mod_add_div]
theorem aij{a e:Nat}(h:P+M=N+b^k*c)(f:e+x+c=d+b*a):(P+b^k*e)+(M+b^k*x)=(N+b^k*d)+b^(k+1)*a:=by grind
theorem akS{B t s e:Nat}(a:0<e)(hd:e*B^k<=d)(l:w<(t*B+s+1)*B^k)(i:0<B):w / d<=(t*B+s) / e:=by
 have f:0<B^k:=Nat.pow_pos i;have h:0<d:=Nat.lt_of_lt_of_le (Nat.mul_pos a f) hd;refine(Nat.le_div_iff_mul_le a).2 ?_;have n:w / d*d<=w:=Nat.div_mul_le_self w d;have m:w / d*(e*B^k)<=w / d*d:=Nat.mul_le_mul_left _ hd;have j:w / d*e*B^k<(t*B+s+1)*B^k:=by rw[Nat.mul_assoc];omega
 have:=Nat.lt_of_mul_lt_mul_right j;omega
theorem aik(hd:0<d)(e:w / d<=g)(a:d*g<=w):g=w / d:=by have:g<=w / d:=(Nat.le_div_iff_mul_le hd).2 (by rw[Nat.mul_comm];exact a);omega
theorem ail(hd:0<d)(a:w<d*g):0<g/\w / d<=g-1:=by have e:w / d<g:=(Nat.div_lt_iff_lt_mul hd).2 (by rw[Nat.mul_comm];exact a);grind
end Go.Skm.Dig
namespace Go.Skm.Fen
open Go Go.Skm Go.Skm.Dig
section
def am3(f:Nat):Bool:=f==74||(f==87||(f==88||(f==187||(f==191||f==193))))
def Mine(X:Ext):Prop:=∀ f,am3 f=false->X f=none
abbrev bH:Nat:=18446744073709551616
theorem b64:2<=bH:=by decide
abbrev kU:List Kd:=[.int .u64]
def bI(k:IntKind)(l:List Nat):List PV:=l.map λn:Nat=>.int k (n:Int)
@[simp] theorem dI(k:IntKind)(l:List Nat):(bI k l).length=l.length:=by simp[bI]
@[simp] theorem iy(k:IntKind)(l:List Nat)(i:Nat):(((bI k l).getD i .nil).cell 0).toInt=((l.getD i 0:Nat):Int):=by rw[qLb,qLb,bI,List.getElem?_map];cases l[i]?<;>rfl
theorem lZ(k:IntKind)(l:List Nat)(i n:Nat):(bI k l).set i (.int k n)=bI k (l.set i n):=by simp[bI,List.map_set]
theorem lI(k:IntKind)(n:Nat):List.replicate n (PV.int k 0)=bI k (List.replicate n 0):=by simp[bI]
theorem Zm(k:IntKind)(l:List Nat)(n:Nat):(bI k l).drop n=bI k (l.drop n):=by simp[bI]
theorem oK(k:IntKind)(l:List Nat)(n:Nat):(bI k l).take n=bI k (l.take n):=by simp[bI]
theorem AB(k:IntKind)(l m:List Nat):bI k l++bI k m=bI k (l++m):=by simp[bI]
theorem set_mid(a:List Nat)(k v:Nat):(a++List.replicate (k+1) 0).set a.length v=(a++[v])++List.replicate k 0:=by grind
theorem uj(b:Nat)(l:List Nat)(i:Nat):val b (l.take (i+1))=val b (l.take i)+b^i*l.getD i 0:=by
 by_cases h:i<l.length
 . rw[List.take_succ_eq_append_getElem h,nR,List.length_take,Nat.min_eq_left (by omega)];grind
 . rw[List.take_of_length_le (show l.length<=i+1 by omega),List.take_of_length_le (show l.length<=i by omega),qLb,List.getElem?_eq_none (by omega)];simp
theorem jy{b:Nat}{l:List Nat}(h:ok b l)(c:0<b)(i:Nat):l.getD i 0<b:=by
 rw[qLb];by_cases a:i<l.length
 . rw[qLd a];exact h _ (List.getElem_mem a)
 grind
theorem VK:∀ l:List Nat,(trim l).length<=l.length
 |[]=>qNr _
 | d::r=>by have a:=VK r;grind[trim]
theorem uO:∀ l:List Nat,l.take (trim l).length=trim l
 |[]=>rfl
 | d::r=>by have a:=uO r;grind[trim]
structure Words (X:Ext):Prop where
 mul:∀ x y:Nat,x<bH->y<bH->run tab X 187 [.p (.int .u64 x),.p (.int .u64 y)] []=some ([.p (.int .u64 ((x*y / bH:Nat):Int)),.p (.int .u64 ((x*y%bH:Nat):Int))],[])
 div:∀ h l d:Nat,h<d->l<bH->d<bH->run tab X 191 [.p (.int .u64 h),.p (.int .u64 l),.p (.int .u64 d)] []=some ([.p (.int .u64 (((h*bH+l) / d:Nat):Int)),.p (.int .u64 (((h*bH+l)%d:Nat):Int))],[])
structure Bits (X:Ext):Prop where
 w:Words X
 clone:∀ l:List Nat,l.length<=100000->run tab X 193 [.p (.list false kU (bI .u64 l))] []=some ([.fresh false kU (bI .u64 l)],[])
instance {X:Ext}:CoeOut (Bits X) (Words X):=⟨Bits.w⟩
section
variable (X:Ext) (hX:Mine X)
include hX
theorem axQ(b:List Nat)(k:b.length<=2147483648)(o:Nat):∀ l,o+l<=b.length->L tab (run tab X) 113 [.arr false kU (bI .u64 b)] [.lp [1,0,0]] (OO o l (bI .u64 b))=some ([.slice 100000 1 o (trim ((b.drop o).take l)).length],[.arr false kU (bI .u64 b)]):=by
 have _:=hX;intro l;induction l with
 | zero =>intro h;refine dU ?_;rw[aby];rfl
 | succ l j =>
  intro h;have e:IntKind.i64.wrap (((l+1:Nat):Int)-1)=(l:Int):=by rw[wrap_eq (by omega) (by omega)];omega
  have c:l<(b.drop o).length:=by simp;omega
  have g:(b.drop o)[l]=b.getD (o+l) 0:=by grind
  refine dU ?_;rw[aby];refine fK (show((l+1:Nat):Int) > 0 by omega) ?_;rw[e];have f:(leI (0:Int) (l:Int)&&cu (l:Int) ((l+1:Nat):Int))=true:=by simp;omega
  have a:(leI (0:Int) (l:Int)&&(leI (l:Int) ((l+1:Nat):Int)&&leI ((l+1:Nat):Int) ((l+1:Nat):Int)))=true:=by simp;omega
  rw[f,a];simp only[qCt,qIt,iy,amL,Int.sub_zero,Nat.add_zero];rw[List.take_succ_eq_append_getElem c,g];by_cases i:b.getD (o+l) 0=0
  . grind[Nq]
  . rw[if_neg (by omega),Fb (λd hd=>by rw[List.getLast?_concat]at hd;exact Option.some.inj hd▸i),qLp,List.length_take,Nat.min_eq_left (by omega)];rfl
theorem abe(b:List Nat)(a:b.length<=2147483648)(o l:Nat)(h:o+l<=b.length):run tab X 113 [.slice 100000 1 o l] [.arr false kU (bI .u64 b)]=some ([.slice 100000 1 o (trim ((b.drop o).take l)).length],[.arr false kU (bI .u64 b)]):=
 aY (hX _ rfl) (by rw[atc];exact axQ X hX b a o l h)
end
end
section
variable {b:Nat}{l:List Nat}
theorem XP(a b c:Nat):nS false a b c=(a+b+c)%bH:=rfl
theorem XQ(a b c:Nat):pq false a b c=(a+b+c) / bH:=rfl
theorem cV{B:Nat}(h:B=18446744073709551616)(a b c:Nat):nS true a b c=(a+B-b-c)%B:=by subst h;rw[nS,qCt]
theorem cC(a b c:Nat):pq true a b c=if a<b+c then 1 else 0:=by rw[pq,qCt]
theorem ams{a c:Nat}(f:a<bH)(e:b<bH)(g:c<=1):nS true a b c+b+c=a+bH*pq true a b c/\nS true a b c<bH/\pq true a b c<=1:=by have d:bH=18446744073709551616:=rfl;revert d f e;generalize bH=B;intro f e d;rw[cV d,cC];grind
theorem pK(b:Nat)(l:List Nat)(i:Nat)(h:l.length<=i):val b (l.take i)=val b l:=by rw[List.take_of_length_le h]
theorem akL{a b c:Bool}(f:a=true)(e:b=true)(d:c=true):(a&&(b&&c))=true:=by simp[f,e,d]
theorem Lp(h:ok b l)(i:Nat):ok b (l.take i):=λd hd=>h d (List.mem_of_mem_take hd)
theorem agw(h:ok b l)(i:Nat):ok b (l.drop i):=λd hd=>h d (List.mem_of_mem_drop hd)
theorem PK(a:0<b)(n:Nat):ok b (List.replicate n 0):=λd hd=>by rw[List.eq_of_mem_replicate hd];exact a
section
variable (X:Ext) (hX:Mine X)
include hX
theorem zG(b:List Nat)(e:b.length<=2147483648)(c:ok bH b)(l:Nat)(d:l=b.length):((run tab X) 113 [.slice 100000 1 0 l] [.arr false kU (bI .u64 b)]).bind (λa=>some ([AV.fresh false kU ((((a.2.headD (.box [])).xs).drop ((a.1.headD .undef).qM)).take ((a.1.headD .undef).sLen))],([]:List bZ)))=some ([.fresh false kU (bI .u64 (bG bH (val bH b)))],[]):=by subst d;rw[abe X hX b e 0 _ (by omega),qLy,List.take_length,<- uF b64 c rfl];simp[qLy,oK,uO]
theorem ash(N M:List Nat)(y:ok bH N)(z:ok bH M)(B:N.length<=100000000)(v:M.length<=N.length):∀(k i c:Nat) (a:List Nat),i+k=N.length->a.length=i->ok bH a->c<=1 ->
    val bH a+bH^i*c=val bH (N.take i)+val bH (M.take i) ->
    L tab (run tab X) 155 [] [.lp [1,1,1,1,0,1,0]] (qN (bI .u64 N) (bI .u64 M) 0 (N.length+1) c N.length i (bI .u64 (a++List.replicate (N.length+1-i) 0)))=some ([.fresh false kU (bI .u64 (bG bH (val bH N+val bH M)))],[]):=by
  intro k;induction k with
  | zero =>
   intro i c a w hp f x o;have r:i=N.length:=by omega
   subst r;refine dU ?_;rw[OT];refine dR (by omega) ?_;have n:(leI (0:Int) (((bI .u64 N).length:Nat):Int)&&cu (((bI .u64 N).length:Nat):Int) ((N.length+1:Nat):Int))=true:=by simp;omega
   rw[n,qCt];simp only[dI,qIt,qNz,Nat.add_sub_cancel_left];rw[show List.replicate 1 0=List.replicate (0+1) 0 from rfl,<- hp,lZ,set_mid];simp only[List.replicate_zero,List.append_nil];have j:ok bH (a++[c]):=lG.2 ⟨f,λd hd=>by rw[List.mem_singleton.1 hd];show c<18446744073709551616;omega⟩;have g:val bH (a++[c])=val bH N+val bH M:=by rw[nR,hp,o,pK _ _ _ (qNr _),pK _ _ _ v]
   rw[<- g];exact zG X hX _ (by simp;omega) j _ (by simp)
  | succ k t =>
   intro i c a w hp f x o;refine dU ?_;rw[OT];refine fK (by omega) ?_;have hd:N.getD i 0<bH:=jy y (by decide) i;have u:M.getD i 0<bH:=jy z (by decide) i;have n:(leI (0:Int) (i:Int)&&cu (i:Int) (((bI .u64 N).length:Nat):Int))=true:=by simp;omega
   have h:(leI (0:Int) (i:Int)&&cu (i:Int) ((N.length+1:Nat):Int))=true:=by simp;omega
   have s:IntKind.i64.wrap ((i:Int)+1)=((i+1:Nat):Int):=by rw[wrap_eq (by omega) (by omega)];omega
   have e:L tab (run tab X) 155 [] [.lp [1,1,1,1,0,1,0]] (qN (bI .u64 N) (bI .u64 M) 0 (N.length+1) (pq false (N.getD i 0) (M.getD i 0) c:Nat) N.length (i+1:Nat) ((bI .u64 (a++List.replicate (N.length+1-i) 0)).set i (.int .u64 (nS false (N.getD i 0) (M.getD i 0) c:Nat))))=some ([.fresh false kU (bI .u64 (bG bH (val bH N+val bH M)))],[]):=by rw[show N.length+1-i=(N.length-i)+1 by omega,<- hp,lZ,set_mid,hp,XP,XQ,show N.length-i=N.length+1-(i+1) by omega];refine t (i+1) _ _ (by omega) (by simp[hp]) (lG.2 ⟨f,λd hd=>by rw[List.mem_singleton.1 hd];exact qNm _ (by decide)⟩) (by show _ / 18446744073709551616<=1;have:N.getD i 0<18446744073709551616:=hd;have:M.getD i 0<18446744073709551616:=u;omega) ?_;rw[nR,hp,uj,uj,show N.getD i 0+M.getD i 0+c=N.getD i 0+M.getD i 0+c from rfl];exact abn o
   have m:(leI (0:Int) ((c:Nat):Int)&&leI ((c:Nat):Int) (1:Int))=true:=by simp;omega
   by_cases q:(i:Int)<((bI .u64 M).length:Nat)
   . refine fK q ?_;have p:(leI (0:Int) (i:Int)&&cu (i:Int) (((bI .u64 M).length:Nat):Int))=true:=by simp at q ⊢;omega
     rw[p,n,qCt,qCt];simp only[qIt,iy,s,qNz];rw[m,akL (by simp) (by simp) rfl,h];exact e
   . refine dR q ?_;have A:M.getD i 0=0:=by simp_all
     rw[A]at e;rw[n,qCt];simp only[qIt,iy,s,qNz];rw[m,akL (by simp) (by simp) rfl,h];exact e
theorem axT(N M:List Nat)(d:ok bH N)(e:ok bH M)(a:N.length<=100000000)(c:M.length<=100000000):run tab X 155 [.p (.list false kU (bI .u64 N)),.p (.list false kU (bI .u64 M))] []=some ([.fresh false kU (bI .u64 (bG bH (val bH N+val bH M)))],[]):=
 aY (hX _ rfl) (by
  have f:∀ N:List Nat,N.length<=100000000->(leI (0:Int) (((N.length+1:Nat):Int))&&(leI (((N.length+1:Nat):Int)) (((N.length+1:Nat):Int))&&leI (((N.length+1:Nat):Int)) (2147483648:Int)))=true:=by intro N h;simp;omega
  have w:∀ N:List Nat,N.length<=100000000->IntKind.i64.wrap (((N.length:Nat):Int)+(1:Int))=((N.length+1:Nat):Int):=by intro N h;rw[wrap_eq (by omega) (by omega)];omega
  rw[atw];simp only[dI];by_cases h:(N.length:Int)<M.length
  . refine fK h ?_;rw[w M c,f M c,qCt,qIt,lI,Nat.add_comm (val bH N)];exact ash X hX M N e d c (by omega) M.length 0 0 [] (by omega) rfl (yX _) (by omega) rfl
  . refine dR h ?_;rw[w N a,f N a,qCt,qIt,lI];exact ash X hX N M d e a (by omega) N.length 0 0 [] (by omega) rfl (yX _) (by omega) rfl)
end
end
section
variable {M N l:List Nat}{a b k:Nat}
def MK(a b:Nat):Int:=if a<b then -1 else if b<a then 1 else 0
def cmpL(b:Nat)(N M:List Nat):Int:=if N.length=M.length then MK (val b N) (val b M)else(N.length:Int)-M.length
theorem rQ(h:k<l.length):l.drop k=l.getD k 0::l.drop (k+1):=by simp_all
theorem Me(b:Nat)(l:List Nat)(k:Nat)(h:k<l.length):val b l=val b (l.take k)+b^k*(l.getD k 0+b*val b (l.drop (k+1))):=by
 conv=>lhs;rw[<- List.take_append_drop k l]
 rw[val_append,List.length_take,Nat.min_eq_left (by omega),rQ h];rfl
theorem Uu(f:ok b N)(c:k<N.length)(d:k<M.length)(e:N.drop (k+1)=M.drop (k+1))(h:N.getD k 0<M.getD k 0):val b N<val b M:=by have g:=rU (Lp f k);rw[List.length_take,Nat.min_eq_left (by omega)]at g;rw[Me b N k c,Me b M k d,e];have i:b^k*(N.getD k 0+b*val b (M.drop (k+1))+1)<=b^k*(M.getD k 0+b*val b (M.drop (k+1))):=Nat.mul_le_mul_left _ (by omega);grind
theorem aas(h:a<b):MK a b=-1:=by rw[MK,if_pos h]
theorem aat(h:b<a):MK a b=1:=by rw[MK,if_neg (by omega),if_pos h]
theorem YR(a:Nat):MK a a=0:=by rw[MK,if_neg (by omega),if_neg (by omega)]
theorem Wj(c:2<=b)(f:ok b l)(d:Dig.tight l)(e:l≠[]):b^(l.length-1)<=val b l:=by have:=OB c (Ue c d e);rwa[UH c f d]at this
theorem GV(d:2<=b)(e:ok b N)(f:ok b M)(c:Dig.tight M)(h:N.length<M.length):val b N<val b M:=by have i:=rU e;have g:=Wj d f c (by intro j;rw[j]at h;simp at h);exact Nat.lt_of_lt_of_le i (Nat.le_trans (Nat.pow_le_pow_right (by omega) (by omega)) g)
theorem amu(c:2<=b)(d:ok b N)(e:ok b M)(f:Dig.tight N)(g:Dig.tight M):cmpL b N M<0↔val b N<val b M:=by
 rw[cmpL];by_cases h:N.length=M.length
 . grind[MK]
 . rw[if_neg h];by_cases i:N.length<M.length
   . have:=GV c d e g i;omega
   . have:=GV c e d f (show M.length<N.length by omega);omega
section
variable (X:Ext) (hX:Mine X)
include hX
theorem ax5(N M:List Nat)(g:ok bH N)(h:ok bH M)(m:N.length<=100000000)(o:N.length=M.length):∀ k,k<=N.length->N.drop k=M.drop k ->
    L tab (run tab X) 156 [] [.lp [1,1,0,1,0]] (Hz (bI .u64 N) (bI .u64 M) ((k:Int)-1))=some ([Ab (MK (val bH N) (val bH M))],[]):=by
  have _:=hX;intro k;induction k with
  | zero =>intro _ hd;rw[qLy,qLy]at hd;subst hd;refine dU ?_;grind[U3,YR]
  | succ k f =>
   intro n hd;refine dU ?_;rw[show((k+1:Nat):Int)-1=(k:Int) by omega,U3];refine fK (by omega) ?_;have e:(leI (0:Int) (k:Int)&&cu (k:Int) (((bI .u64 N).length:Nat):Int))=true:=by simp;omega
   have d:(leI (0:Int) (k:Int)&&cu (k:Int) (((bI .u64 M).length:Nat):Int))=true:=by simp;omega
   have c:IntKind.i64.wrap ((k:Int)-1)=(k:Int)-1:=wrap_eq (by omega) (by omega);rw[e,d];simp only[qCt,qIt,iy,c];by_cases j:N.getD k 0<M.getD k 0
   . rw[aas (Uu g (by omega) (by omega) hd j)];grind
   . refine dR (by omega) ?_;by_cases i:M.getD k 0<N.getD k 0
     . rw[aat (Uu h (by omega) (by omega) hd.symm i)];grind
     . refine dR (by omega) ?_;exact f (by omega) (by rw[rQ (l:=N) (k:=k) (by omega),rQ (l:=M) (k:=k) (by omega),hd,show N.getD k 0=M.getD k 0 by omega])
theorem c156(N M:List Nat)(d:ok bH N)(e:ok bH M)(c:N.length<=100000000)(f:M.length<=100000000):run tab X 156 [.p (.list false kU (bI .u64 N)),.p (.list false kU (bI .u64 M))] []=some ([Ab (cmpL bH N M)],[]):=
 aY (hX _ rfl) (by
  rw[atx,cmpL];simp only[dI];by_cases h:N.length=M.length
  . rw[if_pos h,show(((N.length:Nat):Int) !=((M.length:Nat):Int))=false by simp[h],qCf,wrap_eq (by omega) (by omega)];exact ax5 X hX N M d e c h N.length (by omega) (by rw[List.drop_eq_nil_of_le (by omega),List.drop_eq_nil_of_le (by omega)])
  . rw[if_neg h,show(((N.length:Nat):Int) !=((M.length:Nat):Int))=true by simp;omega,qCt,wrap_eq (by omega) (by omega)])
theorem ax6(N M:List Nat)(B:ok bH N)(C:ok bH M)(G:N.length<=100000000)(y:M.length<=N.length)(z:val bH M<=val bH N):∀(k i c:Nat) (e:List Nat),i+k=N.length->e.length=i->ok bH e->c<=1 ->
    val bH e+val bH (M.take i)=val bH (N.take i)+bH^i*c ->
    L tab (run tab X) 157 [] [.lp [1,1,1,0,1,0]] (wY (bI .u64 N) (bI .u64 M) 0 N.length c N.length i (bI .u64 (e++List.replicate (N.length-i) 0)))=some ([.fresh false kU (bI .u64 (bG bH (val bH N-val bH M)))],[]):=by
  intro k;induction k with
  | zero =>
   intro i c e A hp f u s;have p:i=N.length:=by omega
   subst p;refine dU ?_;rw[Si];refine dR (by omega) ?_;rw[Nat.sub_self,List.replicate_zero,List.append_nil];rw[pK _ _ _ (qNr _),pK _ _ _ y]at s;have D:=rU f;rw[hp]at D;have q:c=0:=by grind
   subst q;have h:val bH e=val bH N-val bH M:=by omega
   rw[<- h];exact zG X hX _ (by omega) f _ hp.symm
  | succ k w =>
   intro i c e A hp f u s;refine dU ?_;rw[Si];refine fK (by omega) ?_;have hd:N.getD i 0<bH:=jy B (by decide) i;have x:M.getD i 0<bH:=jy C (by decide) i;have t:(leI (0:Int) (i:Int)&&cu (i:Int) (((bI .u64 N).length:Nat):Int))=true:=by simp;omega
   have j:(leI (0:Int) (i:Int)&&cu (i:Int) ((N.length:Nat):Int))=true:=by simp;omega
   have r:IntKind.i64.wrap ((i:Int)+1)=((i+1:Nat):Int):=by rw[wrap_eq (by omega) (by omega)];omega
   have g:L tab (run tab X) 157 [] [.lp [1,1,1,0,1,0]] (wY (bI .u64 N) (bI .u64 M) 0 N.length (pq true (N.getD i 0) (M.getD i 0) c:Nat) N.length (i+1:Nat) ((bI .u64 (e++List.replicate (N.length-i) 0)).set i (.int .u64 (nS true (N.getD i 0) (M.getD i 0) c:Nat))))=some ([.fresh false kU (bI .u64 (bG bH (val bH N-val bH M)))],[]):=by obtain⟨F,s2,v⟩:=ams hd x u;rw[show N.length-i=(N.length-(i+1))+1 by omega,<- hp,lZ,set_mid,hp];refine w (i+1) _ _ (by omega) (by simp[hp]) (lG.2 ⟨f,λd hd=>by rw[List.mem_singleton.1 hd];exact s2⟩) v ?_;grind[nR,uj]
   have m:(leI (0:Int) ((c:Nat):Int)&&leI ((c:Nat):Int) (1:Int))=true:=by simp;omega
   by_cases o:(i:Int)<((bI .u64 M).length:Nat)
   . refine fK o ?_;have n:(leI (0:Int) (i:Int)&&cu (i:Int) (((bI .u64 M).length:Nat):Int))=true:=by simp at o ⊢;omega
     rw[n,t,qCt,qCt];simp only[qIt,iy,r,qNz];rw[m,akL (by simp) (by simp) rfl,j];exact g
   . refine dR o ?_;have E:M.getD i 0=0:=by simp_all
     rw[E]at g;rw[t,qCt];simp only[qIt,iy,r,qNz];rw[m,akL (by simp) (by simp) rfl,j];exact g
theorem c157(N M:List Nat)(f:ok bH N)(g:ok bH M)(d:N.length<=100000000)(e:M.length<=N.length)(c:val bH M<=val bH N):run tab X 157 [.p (.list false kU (bI .u64 N)),.p (.list false kU (bI .u64 M))] []=some ([.fresh false kU (bI .u64 (bG bH (val bH N-val bH M)))],[]):=
 aY (hX _ rfl) (by
  have h:(leI (0:Int) (((N.length:Nat):Int))&&(leI (((N.length:Nat):Int)) (((N.length:Nat):Int))&&leI (((N.length:Nat):Int)) (2147483648:Int)))=true:=by simp;omega
  rw[aty];simp only[dI];rw[h,qCt,qIt,lI];exact ax6 X hX N M f g d e c N.length 0 0 [] (by omega) rfl (yX _) (by omega) rfl)
end
end
section
variable {i n v:Nat}{l:List Nat}
theorem asi{x:Int}(b:0<=x)(a:x<18446744073709551616):IntKind.u64.wrap x=x:=by show x%2^64=x;omega
theorem pF(h:n<bH):IntKind.u64.wrap (n:Int)=(n:Int):=asi (by omega) (by have:n<18446744073709551616:=h;omega)
theorem asj(n:Nat):leI 0 (n:Int)=true:=decide_eq_true (Int.natCast_nonneg n)
theorem amX(a b:Nat):(leI 0 (a:Int)&&(leI 0 (b:Int)&&(leI 0 0&&leI 0 1)))=true:=akL (asj a) (asj b) rfl
theorem Ux(b v:Nat):∀(l:List Nat) (i:Nat),i<l.length->val b (l.set i v)+b^i*l.getD i 0=val b l+b^i*v
 |[],i,h=>by simp at h
 | d::r,0,_=>by show v+b*val b r+b^0*d=d+b*val b r+b^0*v;grind
 | d::r,i+1,h=>by have a:=Ux b v r i (by simpa using h);show d+b*val b (r.set i v)+b^(i+1)*r.getD i 0=d+b*val b r+b^(i+1)*v;grind
theorem aez{b:Nat}(h:ok b l)(c:v<b)(i:Nat):ok b (l.set i v):=λd hd=>by
 rcases List.mem_or_eq_of_mem_set hd with a | a
 . exact h d a
 omega
theorem akM{B x y o c:Nat}(b:x<B)(a:y<B)(d:o<B)(f:c<B) :
    ((x*y%B+o+0)%B+c+0)%B+B*(x*y / B+(x*y%B+o+0) / B+((x*y%B+o+0)%B+c+0) / B)=x*y+o+c /\
    x*y / B+(x*y%B+o+0) / B+((x*y%B+o+0)%B+c+0) / B<B:=by
  have q:=Nat.mod_add_div (x*y) B;have p:=Nat.mod_add_div (x*y%B+o+0) B;have m:=Nat.mod_add_div ((x*y%B+o+0)%B+c+0) B;have e:((x*y%B+o+0)%B+c+0)%B+B*(x*y / B+(x*y%B+o+0) / B+((x*y%B+o+0)%B+c+0) / B)=x*y+o+c:=by grind
  refine⟨e,?_⟩;rcases Nat.lt_or_ge (x*y / B+(x*y%B+o+0) / B+((x*y%B+o+0)%B+c+0) / B) B with h | h
  . exact h
  . exfalso;have j:B*B<=x*y+o+c:=by have:=Nat.mul_le_mul_left B h;omega
    have g:x*y<=(B-1)*(B-1):=Nat.mul_le_mul (by omega) (by omega);obtain⟨k,rfl⟩:∃ k,B=k+1:=⟨B-1,by omega⟩;grind
theorem akN(h:i<l.length):(l++List.replicate n 0).getD i 0=l.getD i 0:=by grind
theorem amv(h:i<l.length):(l++List.replicate n 0).set i v=l.set i v++List.replicate n 0:=by grind
section
variable (X:Ext) (hX:Mine X) (hB:Words X)
include hX hB
theorem asl(N M:List Nat)(F:ok bH M)(i n:Nat)(E:i<n)(J:n+M.length<=100000000)(x:Nat)(w:x<bH)(t:Int)
    (r:List AV × List bZ):∀(k j c:Nat) (a:List Nat),j+k=M.length->a.length=i+M.length->ok bH a->c<bH ->
    (∀(f:Nat) (b:List Nat),b.length=i+M.length->ok bH b->f<bH->val bH b+bH^(i+M.length)*f=val bH a+bH^(i+j)*c+bH^(i+j)*(x*val bH (M.drop j)) ->
      L tab (run tab X) 173 [] [.lp [1,1,0,1,0]] (DL (bI .u64 M) 0 (n+M.length) (bI .u64 N) t (i+1:Nat) (bI .u64 (b++[f]++List.replicate (n-i-1) 0)))=some r) ->
    L tab (run tab X) 173 [] [.lp [1,1,0,1,0],.lp [1,1,0,0,1,1,0,1,0]] (oO (bI .u64 M) 0 (n+M.length) i x c (bI .u64 N) t i (bI .u64 M) M.length j (bI .u64 (a++List.replicate (n-i) 0)))=some r:=by
  have _:=hX;intro k;induction k with
  | zero =>
   intro j c a D hp d q K;have p:j=M.length:=by omega
   subst p;refine dU ?_;rw[Ae];refine dR (by omega) ?_;have h:IntKind.i64.wrap ((i:Int)+1)=((i+1:Nat):Int):=by rw[wrap_eq (by omega) (by omega)];omega
   have g:IntKind.i64.wrap ((i:Int)+((M.length:Nat):Int))=((i+M.length:Nat):Int):=by rw[wrap_eq (by omega) (by omega)];omega
   simp only[dI];rw[g];have o:(leI (0:Int) ((i+M.length:Nat):Int)&&cu ((i+M.length:Nat):Int) ((n+M.length:Nat):Int))=true:=by simp;omega
   rw[o,qCt,h,qIt,qNz,show n-i=(n-i-1)+1 by omega,<- hp,lZ,set_mid];exact K c a hp d q (by rw[List.drop_length];simp[val])
  | succ k A =>
   intro j c a D hp d q K;refine dU ?_;rw[Ae];refine fK (by omega) ?_;have o:(leI (0:Int) (j:Int)&&cu (j:Int) (((bI .u64 M).length:Nat):Int))=true:=by simp;omega
   have u:M.getD j 0<bH:=jy F (by decide) j;have B:a.getD (i+j) 0<bH:=jy d (by decide) _;have h:IntKind.i64.wrap ((j:Int)+1)=((j+1:Nat):Int):=by rw[wrap_eq (by omega) (by omega)];omega
   have g:IntKind.i64.wrap ((i:Int)+(j:Int))=((i+j:Nat):Int):=by rw[wrap_eq (by omega) (by omega)];omega
   rw[o,qCt];simp only[qIt,iy,h,g,hB.mul x _ w u,qOb,qLh,List.tail_cons,bV,toInt_int,qNz];have m:(leI (0:Int) ((i+j:Nat):Int)&&cu ((i+j:Nat):Int) ((n+M.length:Nat):Int))=true:=by simp;omega
   obtain⟨z,s2⟩:=akM w u B q;have C:x*M.getD j 0%bH<bH:=qNm _ (by decide);rw[m,qCt,akN (by omega),amX,qCt,amX,qCt,qCt];simp only[qIt,Int.toNat_zero,XP,XQ];have y:x*M.getD j 0 / bH+(x*M.getD j 0%bH+a.getD (i+j) 0+0) / bH<bH:=Nat.lt_of_le_of_lt (Nat.le_add_right _ _) s2;rw[<- Int.natCast_add,pF y,<- Int.natCast_add,pF s2,lZ,amv (by omega)];refine A (j+1) _ _ (by omega) (by simpa using hp) (aez d (qNm _ (by decide)) _) s2 ?_;intro f b I H G h4;refine K f b I H G ?_;rw[h4];have s:=Ux bH (((x*M.getD j 0%bH+a.getD (i+j) 0+0)%bH+c+0)%bH) a (i+j) (by omega);rw[rQ (l:=M) (k:=j) (by omega)];have e:bH^(i+j)*(((x*M.getD j 0%bH+a.getD (i+j) 0+0)%bH+c+0)%bH+bH*(x*M.getD j 0 / bH+(x*M.getD j 0%bH+a.getD (i+j) 0+0) / bH+((x*M.getD j 0%bH+a.getD (i+j) 0+0)%bH+c+0) / bH))=bH^(i+j)*(x*M.getD j 0+a.getD (i+j) 0+c):=by rw[z]
   revert e s;generalize ((x*M.getD j 0%bH+a.getD (i+j) 0+0)%bH+c+0)%bH=lo;generalize x*M.getD j 0 / bH+(x*M.getD j 0%bH+a.getD (i+j) 0+0) / bH+((x*M.getD j 0%bH+a.getD (i+j) 0+0)%bH+c+0) / bH=E;intro s e;show _=_+bH^(i+j)*(x*(M.getD j 0+bH*val bH (M.drop (j+1))));grind
theorem ax7(N M:List Nat)(m:ok bH N)(o:ok bH M)(s:N.length+M.length<=100000000):∀(k i:Nat) (a:List Nat),i+k=N.length->a.length=i+M.length->ok bH a ->
    val bH a=val bH (N.take i)*val bH M ->
    L tab (run tab X) 173 [] [.lp [1,1,0,1,0]] (DL (bI .u64 M) 0 (N.length+M.length) (bI .u64 N) N.length i (bI .u64 (a++List.replicate (N.length-i) 0)))=some ([.fresh false kU (bI .u64 (bG bH (val bH N*val bH M)))],[]):=by
  intro k;induction k with
  | zero =>
   intro i a j hp b c;have e:i=N.length:=by omega
   subst e;refine dU ?_;rw[U5];refine dR (by omega) ?_;rw[Nat.sub_self,List.replicate_zero,List.append_nil];rw[pK _ _ _ (qNr _)]at c;rw[<- c];exact zG X hX _ (by omega) b _ hp.symm
  | succ k g =>
   intro i a j hp b c;refine dU ?_;rw[U5];refine fK (by omega) ?_;have h:(leI (0:Int) (i:Int)&&cu (i:Int) (((bI .u64 N).length:Nat):Int))=true:=by simp;omega
   rw[h,qCt];simp only[qIt,iy,dI];refine asl X hX hB N M o i N.length (by omega) (by omega) _ (jy m (by decide) i) _ _ M.length 0 0 a (by omega) hp b (by decide) ?_;intro t f r q p h4;rw[show N.length-i-1=N.length-(i+1) by omega];refine g (i+1) _ (by omega) (by simp[r];omega) (lG.2 ⟨q,λd hd=>by rw[List.mem_singleton.1 hd];exact p⟩) ?_;simp_all[nR,uj,Nat.mul_zero,Nat.add_zero,qLy,Nat.add_mul,Nat.mul_assoc]
theorem c173(N M:List Nat)(b:ok bH N)(c:ok bH M)(a:N.length+M.length<=100000000):run tab X 173 [.p (.list false kU (bI .u64 N)),.p (.list false kU (bI .u64 M))] []=some ([.fresh false kU (bI .u64 (bG bH (val bH N*val bH M)))],[]):=
 aY (hX _ rfl) (by
  have w:IntKind.i64.wrap (((N.length:Nat):Int)+((M.length:Nat):Int))=((N.length+M.length:Nat):Int):=by rw[wrap_eq (by omega) (by omega)];omega
  have d:(leI (0:Int) (((N.length+M.length:Nat):Int))&&(leI (((N.length+M.length:Nat):Int)) (((N.length+M.length:Nat):Int))&&leI (((N.length+M.length:Nat):Int)) (2147483648:Int)))=true:=by simp;omega
  rw[atC];simp only[dI];rw[w,d,qCt,qIt,lI,Nat.add_comm N.length M.length,<- List.replicate_append_replicate,Nat.add_comm M.length N.length];refine ax7 X hX hB N M b c a N.length 0 (List.replicate M.length 0) (by omega) (by simp) (PK (by decide) _) ?_;rw[F7];simp[val])
end
end
end Go.Skm.Fen
