import Derived.Test.YtoheflpoanjihaaGreatR3
import Derived.Test.YtoheflpoanjihaaGreatEqs
set_option linter.all false
namespace Go.Skm.Fen
open Go Go.Skm
section
open Go.Skm.Dig
variable {k n:Nat}
abbrev nI(n:Nat):List PV:=bI .i64 (bG B9 n)
theorem iok(n:Nat):ok B9 (bG B9 n):=BZ b9 n
theorem ival(n:Nat):val B9 (bG B9 n)=n:=sO b9 n
theorem ajJ(n:Nat):Dig.tight (bG B9 n):=yY b9 n
theorem af8:nI 0=[]:=by rw[nI,gW];rfl
theorem Lr(h:(bG B9 n).length<=k):n<B9^k:=Nat.lt_of_lt_of_le (xY b9) (Nat.pow_le_pow_right (by decide) h)
theorem EN(h:n<B9^k):(bG B9 n).length<=k:=sQ b9 h
theorem ENs{d:Nat}(h:(bG B9 d).length<=k)(g:n<B9):(bG B9 (d*n)).length<=k+1:=EN (by rw[Nat.pow_succ];exact Nat.mul_lt_mul'' (Lr h) g)
theorem ENt{a e:Nat}(o:(bG B9 e).length<=k)(d:a<B9*e):(bG B9 a).length<=k+1:=EN (Nat.lt_trans d (by rw[Nat.pow_succ'];exact Nat.mul_lt_mul_of_pos_left (Lr o) (by decide)))
theorem xB{a b:Nat}(h:a<=b):(bG B9 a).length<=(bG B9 b).length:=EN (Nat.lt_of_le_of_lt h (xY b9))
theorem af9(a b:Nat):MK a b<=0↔a<=b:=by unfold MK;split<;>(try split)<;>simp<;>omega
theorem PL(a b:Nat):MK a b<0↔a<b:=by unfold MK;split<;>(try split)<;>simp<;>omega
section
variable (X:Ext) (hX:Mine X)
include hX
theorem anM(x y:Nat)(b:(bG B9 x).length<=100000000)(a:(bG B9 y).length<=100000000):run tab X 174 [Ah (nI x),Ah (nI y)] []=some ([Ab (MK x y)],[]):=by rw[avJ X hX _ _ (iok x) (iok y) (ajJ x) (ajJ y) b a,ival,ival]
theorem apX(x n:Nat)(a:n<B9)(b:(bG B9 x).length<=10000000):run tab X 129 [Ah (nI x),Ab n] []=some ([.fresh false kI (nI (x*n))],[]):=
 aY (hX _ rfl) (by
  rw[e129];by_cases h:n=0
  . subst h;rw[Nat.mul_zero,af8];rfl
  . rw[show((n:Int)==0)=false by simp;exact h,qCf,show([Ap (n:Int)]:List PV)=bI .i64 [n] from rfl,c160 X hX _ _ (iok x) (λd hd=>by rw[List.mem_singleton.1 hd];exact a) (by simp;omega),ival,val_one];simp only[qOb,qLh,dJ,qLy,List.take_length])
theorem apY(N Rb:List Nat)(D r l i qn:Nat)(Q:List Nat)(x:0<D)(s:(bG B9 D).length<=1000000)(M:i<qn)(z:qn<=1000000)(F:Rb.take l=bG B9 r)(y:(bG B9 r).length<=2000000)(J:r<B9*D)
    (c:List AV × List bZ)(K:L tab (run tab X) 176 [] [.lp [1,1,1,0,1,0]] (wZ (bI .i64 N) (nI D) 0 qn 0 (bG B9 (r-D*(r / D))).length ((i:Int)-1) (bI .i64 (Q.set i (r / D))) (nI (r-D*(r / D))))=some c):∀(m low a:Nat),a-low<=m->low<=a->a<B9->D*low<=r->r<D*(a+1) ->
    L tab (run tab X) 176 [] [.lp [1,1,1,0,1,0],.lp [1,0,0,1,1,1,0,0]] (jU (bI .i64 N) (nI D) 0 qn 0 l i low a (bI .i64 Q) (bI .i64 Rb))=some c:=by
  have j:((bI .i64 Rb).drop 0).take l=nI r:=by rw[qLy,oK,F]
  have g:∀ n,n<B9->(bG B9 (D*n)).length<=1000001:=by intro n B;have q:=ENs (k:=1000000) s B;exact q
  have hdone:∀ low a:Nat,low<=a->¬ low<a->a<B9->D*low<=r->r<D*(a+1)->L tab (run tab X) 176 [] [.lp [1,1,1,0,1,0],.lp [1,0,0,1,1,1,0,0]] (jU (bI .i64 N) (nI D) 0 qn 0 l i low a (bI .i64 Q) (bI .i64 Rb))=some c:=by
   intro low a o f e h4 h5;have E:a=low:=by omega
   subst E;have A:a=r / D:=aik x (Nat.le_of_lt_succ ((Nat.div_lt_iff_lt_mul x).2 (by rw[Nat.mul_comm];exact h5))) h4;refine dU ?_;rw[Af];refine dR (by omega) ?_;have p:(leI (0:Int) (i:Int)&&cu (i:Int) (qn:Int))=true:=by simp;omega
   rw[p,qCt,apX X hX D a e (by omega)];simp only[qOb,qLh,dJ];rw[j,qLy,List.take_length,c175 X hX _ _ (iok _) (iok _) (by omega) (xB h4) (by rw[ival,ival];exact h4),ival,ival];simp only[qOb,qLh,dJ,qIt,qNz,dI];rw[wrap_eq (by omega) (by omega),lZ,A];exact K
  intro m;induction m with
  | zero =>intro low a C o f e h4;exact hdone low a o (by omega) f e h4
  | succ m w =>
   intro low a C o f e h4;by_cases q:low<a
   . have G:a<1000000000:=f;refine dU ?_;rw[Af];refine fK (by omega) ?_;have I:IntKind.i64.wrap ((low:Int)+(a:Int))=((low+a:Nat):Int):=by rw[wrap_eq (by omega) (by omega)];omega
     have H:IntKind.i64.wrap (((low+a:Nat):Int)+1)=((low+a+1:Nat):Int):=by rw[wrap_eq (by omega) (by omega)];omega
     have v:IntKind.i64.wrap (((low+a+1:Nat):Int).tdiv 2)=(((low+a+1) / 2:Nat):Int):=by rw[show(2:Int)=((2:Nat):Int) from rfl,acD,wrap_eq (by omega) (by omega)]
     have u:IntKind.i64.wrap ((((low+a+1) / 2:Nat):Int)-1)=(((low+a+1) / 2-1:Nat):Int):=by rw[wrap_eq (by omega) (by omega)];omega
     simp only[I,H,v,u];have b:(low+a+1) / 2<B9:=by show _<1000000000;omega
     have b1:low<(low+a+1) / 2:=by omega
     have t:(low+a+1) / 2<=a:=by omega
     revert v u b b1 t;generalize (low+a+1) / 2=mid;intro v u b b1 t;rw[apX X hX D mid b (by omega)];simp only[qOb,qLh,dJ];rw[j,qLy,List.take_length,anM X hX _ _ (Nat.le_trans (g mid b) (by omega)) (by omega)];simp only[qOb,qLh,bV,toInt_int];by_cases d:D*mid<=r
     . refine fK ((af9 _ _).2 d) ?_;exact w mid a (by omega) t f d h4
     . refine dR (λh=>d ((af9 _ _).1 h)) ?_;refine w low (mid-1) (by omega) (by omega) (by omega) e ?_;rw[show mid-1+1=mid by omega];omega
   . exact hdone low a o q f e h4
end
end
section
open Go.Skm.Dig
section
variable (X:Ext) (hX:Mine X)
include hX
theorem avP(N:List Nat)(D:Nat)(p:0<D)(m:(bG B9 D).length<=900000)(I:ok B9 N)(F:N.length<=1000000):∀(k r b:Nat) (Rb a:List Nat),k+a.length=N.length->ok B9 a->Rb.take b=bG B9 r->b=(bG B9 r).length->r<D ->
    val B9 (N.drop k)=val B9 a*D+r ->
    L tab (run tab X) 176 [] [.lp [1,1,1,0,1,0]] (wZ (bI .i64 N) (nI D) 0 N.length 0 b ((k:Int)-1) (bI .i64 (List.replicate k 0++a)) (bI .i64 Rb))=some ([.fresh false kI (nI (val B9 N / D)),Ah (nI (val B9 N%D))],[]):=by
  intro k;induction k with
  | zero =>
   intro r b Rb a E c z u o g;refine dU ?_;rw[Sm];refine dR (by simp) ?_;rw[qLy]at g;have K:val B9 N / D=val B9 a:=by rw[g,Nat.mul_comm,Nat.mul_add_div p,Nat.div_eq_of_lt o,Nat.add_zero]
   have J:val B9 N%D=r:=by rw[g,Nat.mul_comm,Nat.mul_add_mod,Nat.mod_eq_of_lt o]
   rw[K,J,List.replicate_zero,List.nil_append,c130 X hX a (by omega) 0 _ (by omega)];simp only[qOb,qLh,yF,kL,kM];have t:((bI .i64 a).drop 0).take (trim ((a.drop 0).take N.length)).length=nI (val B9 a):=by rw[qLy,qLy,show N.length=a.length by omega,List.take_length,oK,uO,uF b9 c rfl]
   rw[t,qLy,oK,z]
  | succ i B =>
   intro r b Rb a E c z u o g;refine dU ?_;rw[show((i+1:Nat):Int)-1=(i:Int) by omega,Sm];refine fK (by omega) ?_;have hd:N.getD i 0<B9:=jy I (by decide) i;have v:(leI (0:Int) (i:Int)&&cu (i:Int) (((bI .i64 N).length:Nat):Int))=true:=by simp;omega
   have C:IntKind.i64.wrap ((i:Int)-1)=(i:Int)-1:=wrap_eq (by omega) (by omega);have hrlen:(bG B9 r).length<=900000:=Nat.le_trans (xB (Nat.le_of_lt o)) m;have y:((bI .i64 Rb).drop 0).take b=nI r:=by rw[qLy,oK,z]
   have hcons:([Ap ((N.getD i 0:Nat):Int)]:List PV)++nI r=bI .i64 (N.getD i 0::bG B9 r):=rfl;have d:ok B9 (N.getD i 0::bG B9 r):=xX.2 ⟨hd,iok r⟩;have n:val B9 (N.getD i 0::bG B9 r)=N.getD i 0+B9*r:=by show _+_*val B9 (bG B9 r)=_;rw[ival]
   have q:trim (((N.getD i 0::bG B9 r).drop 0).take (1+b))=bG B9 (N.getD i 0+B9*r):=by rw[qLy,List.take_of_length_le (by rw[qLl];omega)];exact uF b9 d n
   have htake:(N.getD i 0::bG B9 r).take (bG B9 (N.getD i 0+B9*r)).length=bG B9 (N.getD i 0+B9*r):=by have:=uO (N.getD i 0::bG B9 r);rwa[uF b9 d n]at this
   have e:N.getD i 0+B9*r<B9*D:=by grind
   have G:(bG B9 (N.getD i 0+B9*r)).length<=900001:=by have q:=ENt (k:=900000) m e;exact q
   have f:val B9 (N.drop i)=N.getD i 0+B9*(val B9 a*D+r):=by rw[rQ (l:=N) (k:=i) (by omega)];show _+_*val B9 (N.drop (i+1))=_;rw[g]
   rw[v,qCt];refine fK (show 1+b<=2147483648 by omega) ?_;simp only[qIt,iy];rw[y,hcons,c130 X hX _ (by rw[qLl];omega) 0 (1+b) (by rw[qLl];omega),q];simp only[qOb,qLh,yF,kL,kM];have A:((bI .i64 (N.getD i 0::bG B9 r)).drop 0).take (bG B9 (N.getD i 0+B9*r)).length=nI (N.getD i 0+B9*r):=by rw[qLy,oK,htake]
   rw[A,anM X hX _ _ (by omega) (by omega)];simp only[qOb,qLh,bV,toInt_int];by_cases s:N.getD i 0+B9*r<D
   . refine fK ((PL _ _).2 s) ?_;rw[C,List.replicate_succ',List.append_assoc];refine B _ _ _ _ (by simp;omega) (xX.2 ⟨by decide,c⟩) htake rfl s ?_;rw[f];show _=(0+B9*val B9 a)*D+_;grind
   . refine dR (λh=>s ((PL _ _).1 h)) ?_;have H:=Nat.div_add_mod (N.getD i 0+B9*r) D;have x:=qNm (N.getD i 0+B9*r) p;have j:N.getD i 0+B9*r-D*((N.getD i 0+B9*r) / D)=(N.getD i 0+B9*r)%D:=by omega
     have w:(N.getD i 0+B9*r) / D<B9:=by rw[Nat.div_lt_iff_lt_mul p];exact e
     refine apY X hX N _ D (N.getD i 0+B9*r) _ i N.length (List.replicate (i+1) 0++a) p (by omega) (by omega) F htake (by omega) e _ ?_ 999999999 0 999999999 (by omega) (by omega) (by decide) (by omega) ?_
     . rw[Wn,j];refine B _ _ _ _ (by simp;omega) (xX.2 ⟨w,c⟩) (List.take_length) rfl x ?_;rw[f];show _=((N.getD i 0+B9*r) / D+B9*val B9 a)*D+_;grind
     grind
theorem apZ(x D:Nat)(b:0<D)(a:(bG B9 D).length<=900000)(c:(bG B9 x).length<=1000000):run tab X 176 [Ah (nI x),Ah (nI D)] []=some ([.fresh false kI (nI (x / D)),Ah (nI (x%D))],[]):=
 aY (hX _ rfl) (by
  have d:(leI (0:Int) ((((bG B9 x).length:Nat):Int))&&(leI ((((bG B9 x).length:Nat):Int)) ((((bG B9 x).length:Nat):Int))&&leI ((((bG B9 x).length:Nat):Int)) (2147483648:Int)))=true:=by simp;omega
  rw[atF];simp only[dI];rw[d,qCt,qIt,lI,wrap_eq (by omega) (by omega)];have:=avP X hX (bG B9 x) D b a (iok x) c (bG B9 x).length 0 0 [] [] (by simp) (yX _) (by rw[gW];rfl) (by rw[gW];rfl) b (by rw[List.drop_length];simp[val]);rw[List.append_nil,ival]at this;exact this)
end
end
section
open Go.Skm.Dig
variable {x y:Int}{k:Nat}
def eI(z:Int):PV:=.agg [.bool (decide (z<0)),Ao (nI z.natAbs)]
theorem jg(z:Int):PV.agg [.bool (((eI z).cell 0).toBool),Ao (((eI z).cell 1).toList)]=eI z:=rfl
def nO(z:Int)(k:Nat):Prop:=(bG B9 z.natAbs).length<=k
theorem fA{z:Int}{a b:Nat}(h:nO z a)(c:a<=b):nO z b:=Nat.le_trans h c
theorem ab7(b:nO x k)(a:nO y k):nO (x+y) (k+1):=by refine EN ?_;have d:=Lr b;have c:=Lr a;grind
theorem JO(a:nO x k):nO (-x) k:=by unfold nO;rw[Int.natAbs_neg];exact a
theorem rH{l:Nat}(b:nO x k)(a:nO y l):nO (x*y) (k+l):=by refine EN ?_;rw[Int.natAbs_mul,Nat.pow_add];exact Nat.mul_lt_mul'' (Lr b) (Lr a)
section
variable (X:Ext) (hX:Mine X)
include hX
theorem c131(a:Bool)(m:Nat):run tab X 131 [Ac a,Ah (nI m)] []=some ([.p (eI (if a then -(m:Int)else m))],[]):=
 aY (hX _ rfl) (by
  rw[atf,eI];cases a with
  | true =>
   rw[qCt,if_pos rfl,Int.natAbs_neg,Int.natAbs_natCast,dI];have e:mg ((bG B9 m).length:Int) 0=decide (-(m:Int)<0):=decide_eq_decide.2 (by
    constructor
    . intro h;rcases Nat.eq_zero_or_pos m with b | b;all_goals grind[gW]
    . intro h;have:bG B9 m≠[]:=λb=>by have:=(qZ b9).1 b;omega
      have:=List.length_pos_iff.2 this;omega)
   rw[e]
  | false=>rfl)
theorem avR(x y:Int)(f:nO x 10000000)(d:nO y 10000000):run tab X 142 [.p (eI x),.p (eI y)] []=some ([.p (eI (x+y))],[]):=
 aY (hX _ rfl) (by
  have e:(bG B9 x.natAbs).length<=10000000:=f;have c:(bG B9 y.natAbs).length<=10000000:=d;rw[eI,eI,atn];by_cases h:decide (x<0)=decide (y<0)
  . rw[show(decide (x<0)==decide (y<0))=true by simp[h],qCt,avN X hX _ _ (by omega) (by omega)];simp only[qOb,qLh,dJ,qLy,List.take_length];rw[c131 X hX];grind[qOb,qLh,bV,jg]
  . rw[show(decide (x<0)==decide (y<0))=false by simp[h],qCf,anM X hX _ _ (by omega) (by omega)];simp only[qOb,qLh,bV,toInt_int];by_cases a:y.natAbs<=x.natAbs
    . refine fK (Int.not_lt.1 λb=>absurd ((PL _ _).1 b) (by omega)) ?_;rw[c175 X hX _ _ (iok _) (iok _) (by omega) (xB a) (by rw[ival,ival];exact a),ival,ival];simp only[qOb,qLh,dJ,qLy,List.take_length];rw[c131 X hX];grind[qOb,qLh,bV,jg]
    . refine dR (λb=>absurd ((PL x.natAbs y.natAbs).2 (by omega)) (by omega)) ?_;rw[c175 X hX _ _ (iok _) (iok _) (by omega) (xB (by omega)) (by rw[ival,ival];omega),ival,ival];simp only[qOb,qLh,dJ,qLy,List.take_length];rw[c131 X hX];grind[qOb,qLh,bV,jg])
theorem c127(x y:Int)(d:nO x 10000000)(b:nO y 10000000):run tab X 127 [.p (eI x),.p (eI y)] []=some ([.p (eI (x*y))],[]):=
 aY (hX _ rfl) (by have c:(bG B9 x.natAbs).length<=10000000:=d;have a:(bG B9 y.natAbs).length<=10000000:=b;rw[eI,eI,e127,c160 X hX _ _ (iok _) (iok _) (by omega),ival,ival];simp only[qOb,qLh,dJ,qLy,List.take_length];rw[c131 X hX];simp only[qOb,qLh,bV,jg];grind)
theorem c148(x:Int):run tab X 148 [.p (eI x)] []=some ([.p (eI (-x))],[]):=
 aY (hX _ rfl) (by rw[eI,atr,c131 X hX];grind[qOb,qLh,bV,jg])
theorem anN(x:Int):run tab X 147 [.p (eI x)] []=some ([Ab x.sign],[]):=
 aY (hX _ rfl) (by
  rw[eI,atq];simp only[dI];by_cases h:x=0
  . simp_all[Int.natAbs_zero,gW]
  . have a:bG B9 x.natAbs≠[]:=λb=>by have:=(qZ b9).1 b;omega
    have:=List.length_pos_iff.2 a;grind)
theorem alU(x y:Int)(b:nO x 10000000)(a:nO y 10000000):run tab X 132 [.p (eI x),.p (eI y)] []=some ([.p (eI (x-y))],[]):=
 aY (hX _ rfl) (by have d:=c148 X hX y;have c:=avR X hX x (-y) b (JO a);grind[atg,qOb,qLh,bV,jg,Int.sub_eq_add_neg])
theorem avS(x y:Int)(c:nO x 10000000)(b:nO y 10000000):run tab X 126 [.p (eI x),.p (eI y)] []=some ([Ab (x-y).sign],[]):=
 aY (hX _ rfl) (by have a:=alU X hX x y c b;rw[eI,eI]at a;rw[eI,eI,e126,a];simp only[qOb,qLh,bV,jg,anN X hX,toInt_int])
end
end
section
open Go.Skm.Dig
theorem GY(z:Int):eI z=PV.agg [PV.bool (decide (z<0)),Ao (nI z.natAbs)]:=rfl
section
variable (X:Ext) (hX:Mine X)
include hX
theorem l146:∀(y x:Nat),(bG B9 x).length<=900000->(bG B9 y).length<=900000->L tab (run tab X) 146 [] [.lp [1,1,0,0]] (KW (nI x) (nI y) false)=some ([.p (eI (Nat.gcd x y:Nat))],[]):=by
 intro y;induction y using Nat.strongRecOn with
 | ind y c =>
  intro x e a;refine dU ?_;rw[agQ];simp only[dI];rcases Nat.eq_zero_or_pos y with h | h
  . subst h;refine dR (by rw[gW];simp) ?_;rw[Nat.gcd_zero_right,c131 X hX];rfl
  . have b:bG B9 y≠[]:=λd=>by have:=(qZ b9).1 d;omega
    have f:=List.length_pos_iff.2 b;refine fK (by omega) ?_;rw[apZ X hX x y h a (by omega)];simp only[qOb,qLh,List.tail_cons,bV,EO];rw[c (x%y) (qNm _ h) y a (Nat.le_trans (xB (Nat.le_of_lt (qNm _ h))) a),Nat.gcd_comm x y,Nat.gcd_rec y x,Nat.gcd_comm y (x%y)]
theorem c146(x y:Int)(b:nO x 900000)(a:nO y 900000):run tab X 146 [.p (eI x),.p (eI y)] []=some ([.p (eI (Int.gcd x y:Nat))],[]):=
 aY (hX _ rfl) (by rw[GY x,GY y,atp];exact l146 X hX _ _ b a)
theorem alV(x y:Int)(d:nO x 900000)(h:nO y 900000)(j:y≠0)(hd:y ∣ x):run tab X 149 [.p (eI x),.p (eI y)] []=some ([.p (eI (x / y)),.p (eI 0)],[]):=
 aY (hX _ rfl) (by
  have b:0<y.natAbs:=by omega
  have l:(if(!(decide (x<0)==decide (y<0)))then -((x.natAbs / y.natAbs:Nat):Int)else((x.natAbs / y.natAbs:Nat):Int))=x / y:=by
   obtain⟨k,rfl⟩:=hd;rw[Int.mul_ediv_cancel_left _ j,Int.natAbs_mul,Nat.mul_div_cancel_left _ b];rcases Int.lt_trichotomy k 0 with c | c | c
   . rcases Int.lt_trichotomy y 0 with a | a | a
     . have:=Int.mul_pos_of_neg_of_neg a c;grind
     . grind
     . have:=Int.mul_neg_of_pos_of_neg a c;grind
   . omega
   . rcases Int.lt_trichotomy y 0 with a | a | a
     . have:=Int.mul_neg_of_neg_of_pos a c;grind
     . grind
     . have:=Int.mul_pos a c;grind
  have e:nO (x / y) 900000:=by obtain⟨k,rfl⟩:=hd;rw[Int.mul_ediv_cancel_left _ j];refine Nat.le_trans (xB ?_) d;rw[Int.natAbs_mul];exact Nat.le_mul_of_pos_left _ b
  have f:=c127 X hX (x / y) y (fA e (by omega)) (fA h (by omega));have i:=alU X hX x x (fA d (by omega)) (fA d (by omega));have g:=anN X hX 0;rw[Int.ediv_mul_cancel hd]at f;rw[Int.sub_self]at i;rw[GY y]at f ⊢;rw[GY x,att,apZ X hX _ _ b h (Nat.le_trans d (by omega))];simp only[qOb,qLh,dJ,qLy,List.take_length];rw[c131 X hX,l];simp only[qOb,qLh,bV,jg];rw[f];simp only[qOb,qLh,bV,jg];rw[<- GY x,i];simp only[qOb,qLh,bV,jg];rw[g];rfl)
def eQ(n d:Int):PV:=.agg [.bool (decide (n<0)),Ao (nI n.natAbs),.bool (decide (d<0)),Ao (nI d.natAbs)]
theorem acF(a b:Int)(c:b<0):a / (-(Int.gcd a b:Int))=D5 a b/\b / (-(Int.gcd a b:Int))=D6 a b:=by have hd:((Int.gcd a b:Nat):Int) ∣ a:=Int.gcd_dvd_left ..;rw[D5,D6,Int.sign_eq_neg_one_of_neg c,Int.ediv_neg,Int.ediv_neg];refine⟨by omega,?_⟩;rw[show(b.natAbs:Int)=-b by omega,Int.neg_ediv_of_dvd (Int.gcd_dvd_right ..)]
theorem acG(a b:Int)(c:0<b):a / (Int.gcd a b:Int)=D5 a b/\b / (Int.gcd a b:Int)=D6 a b:=by rw[D5,D6,Int.sign_eq_one_of_pos c,show(b.natAbs:Int)=b by omega,Int.one_mul];simp
theorem c93(a b:Int)(m:nO a 800000)(i:nO b 800000)(n:b≠0):run tab X 93 [.p (eI a),.p (eI b)] []=some ([.p (eQ (D5 a b) (D6 a b))],[]):=
 aY (hX _ rfl) (by
  have l:0<Int.gcd a b:=Int.gcd_pos_of_ne_zero_right _ n;have c:nO (Int.gcd a b:Nat) 900000:=by refine Nat.le_trans (xB ?_) (Nat.le_trans i (show 800000<=900000 by omega));rw[Int.natAbs_natCast];exact Nat.le_of_dvd (by omega) (Nat.gcd_dvd_right _ _)
  have e:=fA m (show 800000<=900000 by omega);have d:=fA i (show 800000<=900000 by omega);have f:=c146 X hX a b e d;have g:=anN X hX b;have k:((Int.gcd a b:Nat):Int) ∣ a:=Int.gcd_dvd_left ..;have j:((Int.gcd a b:Nat):Int) ∣ b:=Int.gcd_dvd_right ..;by_cases h:b<0
  . have h4:=alV X hX a (-(Int.gcd a b:Nat)) e (JO c) (by omega) (Int.neg_dvd.2 k);have h5:=alV X hX b (-(Int.gcd a b:Nat)) d (JO c) (by omega) (Int.neg_dvd.2 j);rw[(acF X hX a b h).1]at h4;rw[(acF X hX a b h).2]at h5;rw[GY a]at f h4;rw[GY b]at f g h5;rw[GY a,GY b,e93,f];simp only[qOb,qLh,bV,jg];rw[g];simp only[qOb,qLh,bV,toInt_int];refine fK (by rw[Int.sign_eq_neg_one_of_neg h];decide) ?_;rw[c148 X hX];simp only[qOb,qLh,bV,jg];rw[h4];simp only[qOb,qLh,bV,jg];rw[h5];rfl
  . have h4:=alV X hX a (Int.gcd a b:Nat) e c (by omega) k;have h5:=alV X hX b (Int.gcd a b:Nat) d c (by omega) j;rw[(acG X hX a b (by omega)).1]at h4;rw[(acG X hX a b (by omega)).2]at h5;rw[GY a]at f h4;rw[GY b]at f g h5;rw[GY a,GY b,e93,f];simp only[qOb,qLh,bV,jg];rw[g];simp only[qOb,qLh,bV,toInt_int];refine dR (by rw[Int.sign_eq_one_of_pos (by omega)];decide) ?_;rw[h4];simp only[qOb,qLh,bV,jg];rw[h5];rfl)
end
end
section
open Go.Skm.Dig
structure QOk (x y:Int) (k:Nat):Prop where
 n:nO x k
 d:nO y k
 p:y≠0
section
variable (X:Ext) (hX:Mine X)
include hX
theorem aeA{x y:Int}(b:nO x 300000)(a:nO y 300000):run tab X 127 [.p (.agg [.bool (decide (x<0)),Ao (nI x.natAbs)]),.p (.agg [.bool (decide (y<0)),Ao (nI y.natAbs)])] []=some ([.p (eI (x*y))],[]):=
 c127 X hX x y (fA b (by omega)) (fA a (by omega))
theorem c67(a b c d:Int)(h:QOk a b 300000)(e:QOk c d 300000):run tab X 67 [.p (eQ a b),.p (eQ c d)] []=some ([Ab (a*d-c*b).sign],[]):=
 aY (hX _ rfl) (by rw[eQ,eQ,e67,aeA X hX h.n e.d];simp only[qOb,qLh,bV];rw[aeA X hX e.n h.d];simp only[qOb,qLh,bV,jg];rw[avS X hX _ _ (fA (rH h.n e.d) (by omega)) (fA (rH e.n h.d) (by omega))];rfl)
theorem c85(a b c d:Int)(h:QOk a b 300000)(e:QOk c d 300000):run tab X 85 [.p (eQ a b),.p (eQ c d)] []=some ([.p (eQ (D5 (a*c) (b*d)) (D6 (a*c) (b*d)))],[]):=
 aY (hX _ rfl) (by rw[eQ,eQ,e85,aeA X hX h.n e.n];simp only[qOb,qLh,bV];rw[aeA X hX h.d e.d];simp only[qOb,qLh,bV,jg];rw[c93 X hX _ _ (fA (rH h.n e.n) (by omega)) (fA (rH h.d e.d) (by omega)) (Int.mul_ne_zero h.p e.p)];rfl)
theorem c145(a b c d:Int)(h:QOk a b 300000)(e:QOk c d 300000):run tab X 145 [.p (eQ a b),.p (eQ c d)] []=some ([.p (eQ (D5 (a*d-c*b) (b*d)) (D6 (a*d-c*b) (b*d)))],[]):=
 aY (hX _ rfl) (by have g:=rH h.n e.d;have f:=rH e.n h.d;rw[eQ,eQ,ato,aeA X hX h.n e.d];simp only[qOb,qLh,bV];rw[aeA X hX e.n h.d];simp only[qOb,qLh,bV,jg];rw[alU X hX _ _ (fA g (by omega)) (fA f (by omega))];simp only[qOb,qLh,bV,jg];rw[aeA X hX h.d e.d];simp only[qOb,qLh,bV,jg];rw[c93 X hX _ _ (fA (show nO (a*d-c*b) 600001 by rw[Int.sub_eq_add_neg];exact ab7 g (JO f)) (by omega)) (fA (rH h.d e.d) (by omega)) (Int.mul_ne_zero h.p e.p)];rfl)
end
end
section
open Go.Skm.Dig
theorem ahr(m:Nat):val B9 [m%1000000000,m / 1000000000%1000000000,m / 1000000000 / 1000000000]=m:=by show m%1000000000+1000000000*(m / 1000000000%1000000000+1000000000*(m / 1000000000 / 1000000000+1000000000*0))=m;omega
theorem ajK{m:Nat}(h:m<=9223372036854775808):ok B9 [m%1000000000,m / 1000000000%1000000000,m / 1000000000 / 1000000000]:=by intro d hd;grind
section
variable (X:Ext) (hX:Mine X)
include hX
theorem ap0(x:Int)(a:nO x 10000000):run tab X 132 [.p (eI x),.p (.agg [.bool false,Ao []])] []=some ([.p (eI x)],[]):=by
 have h:=alU X hX x 0 a (by unfold nO;rw[Int.natAbs_zero,gW];simp);have e:eI 0=.agg [.bool false,Ao []]:=by unfold eI;rw[Int.natAbs_zero,af8];rfl
 rwa[Int.sub_zero,e]at h
theorem aga(m:Nat)(h:m<=9223372036854775808)(a:Bool):(((run tab X) 130 [.slice 100000 1 0 3] [.arr false kI (bI .i64 [m % 1000000000,m / 1000000000 % 1000000000,m / 1000000000 / 1000000000])]).bind λb =>
    (run tab X) 131 [Ac a,Ah ((((b.2.headD (.box [])).xs).drop ((b.1.headD .undef).qM)).take ((b.1.headD .undef).sLen))] [])=some ([.p (eI (if a then -(m:Int)else m))],[]):=by
  rw[c130 X hX _ (by simp) 0 3 (by simp)];simp only[qOb,qLh,yF,kL,kM];have t:((bI .i64 [m%1000000000,m / 1000000000%1000000000,m / 1000000000 / 1000000000]).drop 0).take (trim (([m%1000000000,m / 1000000000%1000000000,m / 1000000000 / 1000000000].drop 0).take 3)).length=nI m:=by show(bI .i64 [m%1000000000,m / 1000000000%1000000000,m / 1000000000 / 1000000000]).take (trim [m%1000000000,m / 1000000000%1000000000,m / 1000000000 / 1000000000]).length=nI m;rw[oK,uO,uF b9 (ajK h) (ahr m)]
  rw[t];exact c131 X hX a m
theorem c71(n:Int)(s:-9223372036854775808<=n)(r:n<=9223372036854775807):run tab X 71 [Ab n] []=some ([.p (eI n)],[]):=
 aY (hX _ rfl) (by
  have i:n.natAbs<=9223372036854775808:=by omega
  have l:nO n 10000000:=by have j:∀ k,3<=k->nO n k:=λk m=>EN (Nat.lt_of_lt_of_le (show n.natAbs<B9^3 by show _<1000000000^3;omega) (Nat.pow_le_pow_right (by decide) m));grind
  rw[e71];by_cases h:n >= 0
  . refine fK h ?_;have g:n.tmod 1000000000=((n.natAbs%1000000000:Nat):Int):=by rw[Int.tmod_eq_emod_of_nonneg h];omega
    have f:n.tdiv 1000000000=((n.natAbs / 1000000000:Nat):Int):=by rw[Int.tdiv_eq_ediv_of_nonneg h];omega
    have d:IntKind.i64.wrap ((n.natAbs / 1000000000:Nat):Int)=((n.natAbs / 1000000000:Nat):Int):=wrap_eq (by omega) (by omega);have c:(((n.natAbs / 1000000000:Nat):Int)).tmod 1000000000=((n.natAbs / 1000000000%1000000000:Nat):Int):=acE _ 1000000000;have b:(((n.natAbs / 1000000000:Nat):Int)).tdiv 1000000000=((n.natAbs / 1000000000 / 1000000000:Nat):Int):=acD _ 1000000000;have a:IntKind.i64.wrap ((n.natAbs / 1000000000 / 1000000000:Nat):Int)=((n.natAbs / 1000000000 / 1000000000:Nat):Int):=wrap_eq (by omega) (by omega);have:=aga X hX n.natAbs i false;rw[if_neg (by decide),show(n.natAbs:Int)=n by omega]at this;rw[g,f,d,c,b,a,<- Option.bind_assoc];erw [this];rfl
  . refine dR h ?_;have g:n.tmod 1000000000=-((n.natAbs%1000000000:Nat):Int):=by
     have e:n=-(n.natAbs:Int):=by omega
     rw[e,Int.neg_tmod,Int.natAbs_neg,Int.natAbs_natCast];exact congrArg _ (acE n.natAbs 1000000000)
    have f:n.tdiv 1000000000=-((n.natAbs / 1000000000:Nat):Int):=by grind
    have d:IntKind.i64.wrap (-((n.natAbs / 1000000000:Nat):Int))=-((n.natAbs / 1000000000:Nat):Int):=wrap_eq (by omega) (by omega);have c:(-((n.natAbs / 1000000000:Nat):Int)).tmod 1000000000=-((n.natAbs / 1000000000%1000000000:Nat):Int):=by rw[Int.neg_tmod];exact congrArg _ (acE _ 1000000000)
    have b:(-((n.natAbs / 1000000000:Nat):Int)).tdiv 1000000000=-((n.natAbs / 1000000000 / 1000000000:Nat):Int):=by rw[Int.neg_tdiv];exact congrArg _ (acD _ 1000000000)
    have a:IntKind.i64.wrap (-((n.natAbs / 1000000000 / 1000000000:Nat):Int))=-((n.natAbs / 1000000000 / 1000000000:Nat):Int):=wrap_eq (by omega) (by omega);have b1:IntKind.i64.wrap (0 - -((n.natAbs%1000000000:Nat):Int))=((n.natAbs%1000000000:Nat):Int):=by rw[wrap_eq (by omega) (by omega)];omega
    have q:IntKind.i64.wrap (0 - -((n.natAbs / 1000000000%1000000000:Nat):Int))=((n.natAbs / 1000000000%1000000000:Nat):Int):=by rw[wrap_eq (by omega) (by omega)];omega
    have o:IntKind.i64.wrap (0 - -((n.natAbs / 1000000000 / 1000000000:Nat):Int))=((n.natAbs / 1000000000 / 1000000000:Nat):Int):=by rw[wrap_eq (by omega) (by omega)];omega
    have:=aga X hX n.natAbs i true;rw[if_pos rfl,show -(n.natAbs:Int)=n by omega]at this;rw[g,f,d,c,b,a,b1,q,o,<- Option.bind_assoc];erw [this];simp only[qOb,qLh,bV,jg];rw[ap0 X hX n l];rfl)
end
end
section
theorem ald{a b m n:Int}(g:-m<=a/\a<=m)(f:-n<=b/\b<=n):-(m*n)<=a*b/\a*b<=m*n:=by
 have e:a.natAbs<=m.toNat:=by omega
 have d:b.natAbs<=n.toNat:=by omega
 have c:=Nat.mul_le_mul e d;rw[<- Int.natAbs_mul]at c;grind
def nG(n:Int):Int:=if n<0 then -1 else if n > 0 then 1 else 0
def area(a b c:V3):Int:=(b.x-a.x)*(c.y-a.y)-(b.y-a.y)*(c.x-a.x)
def rF(m:Int)(v:V3):Bool:=decide (-m<=v.x/\v.x<=m)&&(decide (-m<=v.y/\v.y<=m)&&decide (-m<=v.z/\v.z<=m))
def qy(a b c:V3):Int:=nG (area a b c)
theorem Le{m:Int}{v:V3}:rF m v=true↔(-m<=v.x/\v.x<=m)/\(-m<=v.y/\v.y<=m)/\(-m<=v.z/\v.z<=m):=by simp[rF]
section
variable (X:Ext) (hX:Mine X)
include hX
theorem c107(v:V3)(i:Int):run tab X 107 [.p (cO v),Ab i] []=some ([Ab (if i=0 then v.x else if i=1 then v.y else v.z)],[]):=
 aY (hX _ rfl) (by rw[cO,as8];grind)
theorem auD(n:Int):run tab X 178 [Ab n] []=some ([Ab (nG n)],[]):=
 aY (hX _ rfl) (by rw[atH];simp only[O4,nG];grind)
theorem c56(v:V3)(m:Int)(l:0<=m)(k:m<=9223372036854775807):run tab X 56 [.p (cO v),Ab m] []=some ([Ac (rF m v)],[]):=by
 have a:IntKind.i64.wrap (0-m)=-m:=by rw[wrap_eq (by omega) (by omega)];omega
 refine aY (hX _ rfl) ?_;rw[cO,e56];have b:∀ i,run tab X 107 [.p (.agg [Ap v.x,Ap v.y,Ap v.z]),Ab i] []=some ([Ab (if i=0 then v.x else if i=1 then v.y else v.z)],[]):=λi=>c107 X hX v i;refine dU ?_;rw[OH];simp only[b,a,qOb,qLh,bV,toInt_int,O4];rw[if_pos (by decide)];simp only[if_true];by_cases f:v.x > m
 . rw[if_pos f];simp[rF];omega
 rw[if_neg f];by_cases e:v.x < -m
 . rw[if_pos e];simp[rF];omega
 rw[if_neg e];refine dU ?_;rw[OH];simp only[b,a,qOb,qLh,bV,toInt_int,O4];have j:IntKind.i64.wrap (0+1)=1:=by decide
 rw[j,if_pos (by decide)];simp only[show ¬((1:Int)=0) by decide,if_false,if_true];by_cases d:v.y > m
 . rw[if_pos d];simp[rF];omega
 rw[if_neg d];by_cases h4:v.y < -m
 . rw[if_pos h4];simp[rF];omega
 rw[if_neg h4];refine dU ?_;rw[OH];simp only[b,a,qOb,qLh,bV,toInt_int,O4];have h:IntKind.i64.wrap (1+1)=2:=by decide
 rw[h,if_pos (by decide)];simp only[show ¬((2:Int)=0) by decide,show ¬((2:Int)=1) by decide,if_false];by_cases h5:v.z > m
 . rw[if_pos h5];simp[rF];omega
 rw[if_neg h5];by_cases c:v.z < -m
 . rw[if_pos c];simp[rF];omega
 rw[if_neg c];refine dU ?_;rw[OH];have g:IntKind.i64.wrap (2+1)=3:=by decide
 rw[g];have:rF m v=true:=by rw[Le];omega
 grind
theorem c21(v:V3):run tab X 21 [.p (cO v)] []=some ([Ac (rF 1048576 v)],[]):=
 aY (hX _ rfl) (by rw[cO,e21];have:=c56 X hX v 1048576 (by decide) (by decide);simp_all[cO,this])
theorem c95(v:V3)(m:Int)(j:0<=m)(i:m<=9223372036854775807):run tab X 95 [Ab m,.p (.list false [.int .i64] [Ap v.x,Ap v.y,Ap v.z])] []=some ([Ac (rF m v)],[]):=by
 have a:IntKind.i64.wrap (0-m)=-m:=by rw[wrap_eq (by omega) (by omega)];omega
 have h:IntKind.i64.wrap (0+1)=1:=by decide
 have g:IntKind.i64.wrap (1+1)=2:=by decide
 have f:IntKind.i64.wrap (2+1)=3:=by decide
 refine aY (hX _ rfl) ?_;rw[e95];refine dU ?_;rw[OL];simp only[a,h,O4,aiS,qLl,List.length_nil];simp only[show((0:Int)<((0+1+1+1:Nat):Int)) by decide,Int.le_refl,if_true,Int.toNat_zero,qLz,Vo,toInt_int];by_cases e:v.x < -m
 . rw[if_pos e];simp[rF];omega
 rw[if_neg e];by_cases d:v.x > m
 . rw[if_pos d];simp[rF];omega
 rw[if_neg d];refine dU ?_;rw[OL];simp only[a,g,O4,aiS,qLl,List.length_nil];simp only[show((1:Int)<((0+1+1+1:Nat):Int)) by decide,show(0:Int)<=1 by decide,if_true,show(1:Int).toNat=1 from rfl,List.getD_cons_succ,qLz,Vo,toInt_int];by_cases c:v.y < -m
 . rw[if_pos c];simp[rF];omega
 rw[if_neg c];by_cases h4:v.y > m
 . rw[if_pos h4];simp[rF];omega
 rw[if_neg h4];refine dU ?_;rw[OL];simp only[a,f,O4,aiS,qLl,List.length_nil];simp only[show((2:Int)<((0+1+1+1:Nat):Int)) by decide,show(0:Int)<=2 by decide,if_true,show(2:Int).toNat=2 from rfl,List.getD_cons_succ,qLz,Vo,toInt_int];by_cases h5:v.z < -m
 . rw[if_pos h5];simp[rF];omega
 rw[if_neg h5];by_cases b:v.z > m
 . rw[if_pos b];simp[rF];omega
 rw[if_neg b];refine dU ?_;rw[OL];have:rF m v=true:=by rw[Le];omega
 grind
theorem c40(v:V3):run tab X 40 [.p (cO v)] []=some ([Ac (rF 1048576 v)],[]):=
 aY (hX _ rfl) (by rw[cO,e40,c95 X hX v _ (by decide) (by decide)];rfl)
theorem anl(v:V3):run tab X 177 [.p (cO v)] []=some ([Ac (rF 16777216 v)],[]):=
 aY (hX _ rfl) (by rw[cO,atG,c95 X hX v _ (by decide) (by decide)];rfl)
end
end
section
section
variable (X:Ext) (hX:Mine X)
include hX
def Bd(m:Int)(v:V3):Prop:=(-m<=v.x/\v.x<=m)/\(-m<=v.y/\v.y<=m)/\(-m<=v.z/\v.z<=m)
theorem auV(a b:V3)(d:Bd 1099511627776 a)(c:Bd 1099511627776 b):run tab X 151 [.p (cO a),.p (cO b)] []=some ([.p (cO ⟨a.x+b.x,a.y+b.y,a.z+b.z⟩)],[]):=
 aY (hX _ rfl) (by obtain⟨i,h,g⟩:=d;obtain⟨b1,f,e⟩:=c;rw[cO,cO,atv,wrap_eq (by omega) (by omega),wrap_eq (by omega) (by omega),wrap_eq (by omega) (by omega)];rfl)
end
end
section
variable {m:Int}{v:V3}
def VG(p q r s:Int):Int:=IntKind.i64.wrap (IntKind.i64.wrap (p*q)-IntKind.i64.wrap (r*s))
def ai6(a b:V3):V3:=⟨a.x-b.x,a.y-b.y,a.z-b.z⟩
def ad9(a:V3):V3:=⟨-a.x,-a.y,-a.z⟩
def Jg(a b p:V3):Bool:=(qy a b p==0)&&(decide (sV a.x b.x<=p.x)&&(decide (p.x<=sW a.x b.x)&&(decide (sV a.y b.y<=p.y)&&decide (p.y<=sW a.y b.y))))
theorem ug:rF m v=true↔Bd m v:=Le
theorem Bd.mono{n:Int}(h:Bd m v)(a:m<=n):Bd n v:=by obtain⟨d,c,b⟩:=h;exact⟨by omega,by omega,by omega⟩
section
variable (X:Ext) (hX:Mine X)
include hX
theorem c152(v:V3)(h:Bd 1099511627776 v):run tab X 152 [.p (cO v)] []=some ([.p (cO (ad9 v))],[]):=
 aY (hX _ rfl) (by obtain⟨c,b,a⟩:=h;rw[cO,e152,wrap_eq (by omega) (by omega),wrap_eq (by omega) (by omega),wrap_eq (by omega) (by omega)];simp[ad9,cO])
theorem c105(a b:V3)(f:Bd 34359738368 a)(c:Bd 34359738368 b):run tab X 105 [.p (cO a),.p (cO b)] []=some ([.p (cO (ai6 a b))],[]):=
 aY (hX _ rfl) (by have e:=c152 X hX b (c.mono (by decide));have d:=auV X hX a (ad9 b) (f.mono (by decide)) (by obtain⟨b1,h,g⟩:=c;exact⟨by simp[ad9];omega,by simp[ad9];omega,by simp[ad9];omega⟩);simp only[cO,ad9]at e d;rw[cO,cO,as7];simp only[e,qOb,qLh,bV,GH,qLz,List.getD_cons_succ,toInt_int];simp only[d,qOb,qLh,bV,GH,qLz,List.getD_cons_succ,toInt_int,cO,ai6,Int.sub_eq_add_neg])
theorem avh(a b:V3):run tab X 104 [.p (cO a),.p (cO b)] []=some ([.p (cO ⟨VG a.y b.z a.z b.y,VG a.z b.x a.x b.z,VG a.x b.y a.y b.x⟩)],[]):=by have c:∀(v:V3) i,run tab X 107 [.p (.agg [Ap v.x,Ap v.y,Ap v.z]),Ab i] []=some ([Ab (if i=0 then v.x else if i=1 then v.y else v.z)],[]):=λv i=>c107 X hX v i;refine aY (hX _ rfl) ?_;rw[cO,cO,as6];refine dU ?_;rw[Hu];refine fK (by decide) ?_;simp only[c,qOb,qLh,bV,toInt_int];rw[show(leI (0:Int) 0&&cu (0:Int) 3)=true from rfl,qCt,show Je (0:Int) 0=true from rfl,qCt,show IntKind.i64.wrap ((0:Int)+1)=1 from rfl];refine dU ?_;rw[Hu];refine fK (by decide) ?_;simp only[c,qOb,qLh,bV,toInt_int];rw[show(leI (0:Int) 1&&cu (1:Int) 3)=true from rfl,qCt,show Je (1:Int) 0=false from rfl,qCf,show Je (1:Int) 1=true from rfl,qCt,show IntKind.i64.wrap ((1:Int)+1)=2 from rfl];refine dU ?_;rw[Hu];refine fK (by decide) ?_;simp only[c,qOb,qLh,bV,toInt_int];rw[show(leI (0:Int) 2&&cu (2:Int) 3)=true from rfl,qCt,show Je (2:Int) 0=false from rfl,qCf,show Je (2:Int) 1=false from rfl,qCf,show Je (2:Int) 2=true from rfl,qCt,show IntKind.i64.wrap ((2:Int)+1)=3 from rfl];refine dU ?_;rw[Hu];exact dR (by decide) rfl
omit hX in
theorem afP{a b c:V3}(f:Bd 16777216 a)(e:Bd 16777216 b)(d:Bd 16777216 c) :
    (-1125899906842624<=(b.x-a.x)*(c.y-a.y)/\(b.x-a.x)*(c.y-a.y)<=1125899906842624)/\(-1125899906842624<=(b.y-a.y)*(c.x-a.x)/\(b.y-a.y)*(c.x-a.x)<=1125899906842624):=by
  obtain⟨k,j,_⟩:=f;obtain⟨b1,i,_⟩:=e;obtain⟨c1,c2,_⟩:=d;have h:=ald (a:=b.x-a.x) (b:=c.y-a.y) (m:=33554432) (n:=33554432) (by omega) (by omega);have g:=ald (a:=b.y-a.y) (b:=c.x-a.x) (m:=33554432) (n:=33554432) (by omega) (by omega);omega
omit hX in
theorem ag6{p q r s:Int}(c:-m<=p*q/\p*q<=m)(b:-m<=r*s/\r*s<=m)(a:m<=4611686018427387903):VG p q r s=p*q-r*s:=by unfold VG;rw[wrap_eq (x:=p*q) (by omega) (by omega),wrap_eq (x:=r*s) (by omega) (by omega),wrap_eq (by omega) (by omega)]
theorem c97(a b c:V3)(g:Bd 16777216 a)(j:Bd 16777216 b)(i:Bd 16777216 c):run tab X 97 [.p (cO a),.p (cO b),.p (cO c)] []=some ([Ab (qy a b c)],[]):=
 aY (hX _ rfl) (by
  have n:=c105 X hX b a (j.mono (by decide)) (g.mono (by decide));have l:=c105 X hX c a (i.mono (by decide)) (g.mono (by decide));have k:=avh X hX (ai6 b a) (ai6 c a);have h:=afP g j i;have e:=ag6 h.1 h.2 (by decide);simp only[cO,ai6]at n l k;rw[cO,cO,cO,e97];simp only[n,l,qOb,qLh,bV,GH,qLz,List.getD_cons_succ,toInt_int];simp only[k,qOb,qLh,bV,GH,qLz,List.getD_cons_succ,toInt_int,e,O4];unfold qy area nG;by_cases f:(b.x-a.x)*(c.y-a.y)-(b.y-a.y)*(c.x-a.x) > 0
  . rw[if_pos f,if_neg (by omega),if_pos f]
  . rw[if_neg f];by_cases d:(b.x-a.x)*(c.y-a.y)-(b.y-a.y)*(c.x-a.x)<0
    . rw[if_pos d,if_pos d]
    . rw[if_neg d,if_neg d,if_neg f])
theorem avi(a b c:V3)(f:Bd 16777216 a)(e:Bd 16777216 b)(d:Bd 16777216 c):run tab X 150 [.p (cO a),.p (cO b),.p (cO c)] []=some ([Ab (qy a b c),Ab 0],[]):=
 aY (hX _ rfl) (by have i:=anl X hX a;have h:=anl X hX b;have g:=anl X hX c;rw[ug.2 f]at i;rw[ug.2 e]at h;rw[ug.2 d]at g;have j:=afP f e d;obtain⟨n,l,_⟩:=f;obtain⟨b1,k,_⟩:=e;obtain⟨c1,c2,_⟩:=d;simp only[cO]at i h g;rw[cO,cO,cO,atu];simp only[i,h,g,qOb,qLh,bV,bf,qBt,qCf];rw[wrap_eq (x:=b.x-a.x) (by omega) (by omega),wrap_eq (x:=c.y-a.y) (by omega) (by omega),wrap_eq (x:=b.y-a.y) (by omega) (by omega),wrap_eq (x:=c.x-a.x) (by omega) (by omega)];rw[wrap_eq (x:=(b.x-a.x)*(c.y-a.y)) (by omega) (by omega),wrap_eq (x:=(b.y-a.y)*(c.x-a.x)) (by omega) (by omega),wrap_eq (by omega) (by omega),auD X hX];rfl)
theorem c45(a b p:V3)(e:Bd 16777216 a)(d:Bd 16777216 b)(hp:Bd 16777216 p):run tab X 45 [.p (cO a),.p (cO b),.p (cO p)] []=some ([Ac (Jg a b p)],[]):=
 aY (hX _ rfl) (by have c:=c97 X hX a b p e d hp;simp only[cO]at c;rw[cO,cO,cO,e45];simp only[c,qOb,qLh,bV,toInt_int,Jg];have q:∀ x y:Int,leI x y=decide (x<=y):=λ_ _=>rfl;rw[q,q,q,q];cases (qy a b p==0)<;>cases (decide (sV a.x b.x<=p.x))<;>cases (decide (p.x<=sW a.x b.x))<;>cases (decide (sV a.y b.y<=p.y))<;>rfl)
end
end
end Go.Skm.Fen
