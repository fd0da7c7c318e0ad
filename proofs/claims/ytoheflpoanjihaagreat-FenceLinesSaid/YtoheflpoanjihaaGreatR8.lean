import Derived.Test.YtoheflpoanjihaaGreatR3
set_option linter.all false
namespace Go.Skm.Fen
open Go Go.Skm Go.Skm.Dig
section
variable {k n:Nat}
abbrev nI(n:Nat):List PV:=aY .i64 (aW B9 n)
theorem Qr(n:Nat):ok B9 (aW B9 n):=sF b9 n
theorem ival(n:Nat):val B9 (aW B9 n)=n:=lH b9 n
theorem SV(n:Nat):Dig.tight (aW B9 n):=qc b9 n
theorem OV:nI 0=[]:=by rw[nI,dF];rfl
theorem zk(h:(aW B9 n).length<=k):n<B9^k:=Nat.lt_of_lt_of_le (oU b9) (Nat.pow_le_pow_right (by decide) h)
theorem uX(h:n<B9^k):(aW B9 n).length<=k:=lI b9 h
theorem uXs{d:Nat}(h:(aW B9 d).length<=k)(g:n<B9):(aW B9 (d*n)).length<=k+1:=uX (by rw[Nat.pow_succ];exact Nat.mul_lt_mul'' (zk h) g)
theorem uXt{a e:Nat}(o:(aW B9 e).length<=k)(d:a<B9*e):(aW B9 a).length<=k+1:=uX (Nat.lt_trans d (by rw[Nat.pow_succ'];exact Nat.mul_lt_mul_of_pos_left (zk o) (by decide)))
theorem oK{a b:Nat}(h:a<=b):(aW B9 a).length<=(aW B9 b).length:=uX (Nat.lt_of_le_of_lt h (oU b9))
theorem OW(a b:Nat):zA a b<=0↔a<=b:=by unfold zA;split<;>(try split)<;>simp<;>omega
theorem BJ(a b:Nat):zA a b<0↔a<b:=by unfold zA;split<;>(try split)<;>simp<;>omega
section
variable (X:Ext) (hX:Mine X)
include hX
theorem WA(x y:Nat)(b:(aW B9 x).length<=100000000)(a:(aW B9 y).length<=100000000):run tab X 174 [An (nI x),An (nI y)] []=some ([Ab (zA x y)],[]):=by rw[acW X hX _ _ (Qr x) (Qr y) (SV x) (SV y) b a,ival,ival]
theorem Yz(x n:Nat)(a:n<B9)(b:(aW B9 x).length<=10000000):run tab X 129 [An (nI x),Ab n] []=some ([.fresh false kI (nI (x*n))],[]):=
 run_of (hX _ rfl) (by
  rw[e129];by_cases h:n=0
  . subst h;rw[Nat.mul_zero,OV];rfl
  . rw[show((n:Int)==0)=false by simp;exact h,qCf,show([Av (n:Int)]:List PV)=aY .i64 [n] from rfl,c160 X hX _ _ (Qr x) (λd hd=>by rw[List.mem_singleton.1 hd];exact a) (by simp;omega),ival,val_one];simp only[qOb,qLh,freshList_fresh,qLy,List.take_length])
theorem YA(N Rb:List Nat)(D r l i qn:Nat)(Q:List Nat)(x:0<D)(s:(aW B9 D).length<=1000000)(M:i<qn)(z:qn<=1000000)(F:Rb.take l=aW B9 r)(y:(aW B9 r).length<=2000000)(J:r<B9*D)
    (c:List AV × List Blk)(K:L tab (run tab X) 176 [] [.lp [1,1,1,0,1,0]] (oh (aY .i64 N) (nI D) 0 qn 0 (aW B9 (r-D*(r / D))).length ((i:Int)-1) (aY .i64 (Q.set i (r / D))) (nI (r-D*(r / D))))=some c):∀(m low a:Nat),a-low<=m->low<=a->a<B9->D*low<=r->r<D*(a+1) ->
    L tab (run tab X) 176 [] [.lp [1,1,1,0,1,0],.lp [1,0,0,1,1,1,0,0]] (gJ (aY .i64 N) (nI D) 0 qn 0 l i low a (aY .i64 Q) (aY .i64 Rb))=some c:=by
  have j:((aY .i64 Rb).drop 0).take l=nI r:=by rw[qLy,jv,F]
  have g:∀ n,n<B9->(aW B9 (D*n)).length<=1000001:=by intro n B;have q:=uXs (k:=1000000) s B;exact q
  have hdone:∀ low a:Nat,low<=a->¬ low<a->a<B9->D*low<=r->r<D*(a+1)->L tab (run tab X) 176 [] [.lp [1,1,1,0,1,0],.lp [1,0,0,1,1,1,0,0]] (gJ (aY .i64 N) (nI D) 0 qn 0 l i low a (aY .i64 Q) (aY .i64 Rb))=some c:=by
   intro low a o f e h4 h5;have E:a=low:=by omega
   subst E;have A:a=r / D:=QE x (Nat.le_of_lt_succ ((Nat.div_lt_iff_lt_mul x).2 (by rw[Nat.mul_comm];exact h5))) h4;refine L_of ?_;rw[qK];refine condNP (by omega) ?_;have p:(leI (0:Int) (i:Int)&&ltI (i:Int) (qn:Int))=true:=by simp;omega
   rw[p,qCt,Yz X hX D a e (by omega)];simp only[qOb,qLh,freshList_fresh];rw[j,qLy,List.take_length,c175 X hX _ _ (Qr _) (Qr _) (by omega) (oK h4) (by rw[ival,ival];exact h4),ival,ival];simp only[qOb,qLh,freshList_fresh,qIt,qNz,bG];rw[wrap_eq (by omega) (by omega),iO,A];exact K
  intro m;induction m with
  | zero =>intro low a C o f e h4;exact hdone low a o (by omega) f e h4
  | succ m w =>
   intro low a C o f e h4;by_cases q:low<a
   . have G:a<1000000000:=f;refine L_of ?_;rw[qK];refine condP (by omega) ?_;have I:IntKind.i64.wrap ((low:Int)+(a:Int))=((low+a:Nat):Int):=by rw[wrap_eq (by omega) (by omega)];omega
     have H:IntKind.i64.wrap (((low+a:Nat):Int)+1)=((low+a+1:Nat):Int):=by rw[wrap_eq (by omega) (by omega)];omega
     have v:IntKind.i64.wrap (((low+a+1:Nat):Int).tdiv 2)=(((low+a+1) / 2:Nat):Int):=by rw[show(2:Int)=((2:Nat):Int) from rfl,LC,wrap_eq (by omega) (by omega)]
     have u:IntKind.i64.wrap ((((low+a+1) / 2:Nat):Int)-1)=(((low+a+1) / 2-1:Nat):Int):=by rw[wrap_eq (by omega) (by omega)];omega
     simp only[I,H,v,u];have b:(low+a+1) / 2<B9:=by show _<1000000000;omega
     have b1:low<(low+a+1) / 2:=by omega
     have t:(low+a+1) / 2<=a:=by omega
     revert v u b b1 t;generalize (low+a+1) / 2=mid;intro v u b b1 t;rw[Yz X hX D mid b (by omega)];simp only[qOb,qLh,freshList_fresh];rw[j,qLy,List.take_length,WA X hX _ _ (Nat.le_trans (g mid b) (by omega)) (by omega)];simp only[qOb,qLh,pv_p,toInt_int];by_cases d:D*mid<=r
     . refine condP ((OW _ _).2 d) ?_;exact w mid a (by omega) t f d h4
     . refine condNP (λh=>d ((OW _ _).1 h)) ?_;refine w low (mid-1) (by omega) (by omega) (by omega) e ?_;rw[show mid-1+1=mid by omega];omega
   . exact hdone low a o q f e h4
end
end
section
section
variable (X:Ext) (hX:Mine X)
include hX
theorem ac2(N:List Nat)(D:Nat)(o:0<D)(m:(aW B9 D).length<=900000)(I:ok B9 N)(F:N.length<=1000000):∀(k r b:Nat) (Rb a:List Nat),k+a.length=N.length->ok B9 a->Rb.take b=aW B9 r->b=(aW B9 r).length->r<D ->
    val B9 (N.drop k)=val B9 a*D+r ->
    L tab (run tab X) 176 [] [.lp [1,1,1,0,1,0]] (oh (aY .i64 N) (nI D) 0 N.length 0 b ((k:Int)-1) (aY .i64 (List.replicate k 0++a)) (aY .i64 Rb))=some ([.fresh false kI (nI (val B9 N / D)),An (nI (val B9 N%D))],[]):=by
  intro k;induction k with
  | zero =>
   intro r b Rb a E c y s n g;refine L_of ?_;rw[Dn];refine condNP (by simp) ?_;rw[qLy]at g;have K:val B9 N / D=val B9 a:=by rw[g,Nat.mul_comm,Nat.mul_add_div o,Nat.div_eq_of_lt n,Nat.add_zero]
   have J:val B9 N%D=r:=by rw[g,Nat.mul_comm,Nat.mul_add_mod,Nat.mod_eq_of_lt n]
   rw[K,J,List.replicate_zero,List.nil_append,c130 X hX a (by omega) 0 _ (by omega)];simp only[qOb,qLh,xs_arr,sOff_slice,sLen_slice];have t:((aY .i64 a).drop 0).take (trim ((a.drop 0).take N.length)).length=nI (val B9 a):=by rw[qLy,qLy,show N.length=a.length by omega,List.take_length,jv,mG,lX b9 c rfl]
   rw[t,qLy,jv,y]
  | succ i A =>
   intro r b Rb a E c y s n g;refine L_of ?_;rw[show((i+1:Nat):Int)-1=(i:Int) by omega,Dn];refine condP (by omega) ?_;have hd:N.getD i 0<B9:=fK I (by decide) i;have u:(leI (0:Int) (i:Int)&&ltI (i:Int) (((aY .i64 N).length:Nat):Int))=true:=by simp;omega
   have C:IntKind.i64.wrap ((i:Int)-1)=(i:Int)-1:=wrap_eq (by omega) (by omega);have hrlen:(aW B9 r).length<=900000:=Nat.le_trans (oK (Nat.le_of_lt n)) m;have x:((aY .i64 Rb).drop 0).take b=nI r:=by rw[qLy,jv,y]
   have hcons:([Av ((N.getD i 0:Nat):Int)]:List PV)++nI r=aY .i64 (N.getD i 0::aW B9 r):=rfl;have d:ok B9 (N.getD i 0::aW B9 r):=oQ.2 ⟨hd,Qr r⟩;have B:val B9 (N.getD i 0::aW B9 r)=N.getD i 0+B9*r:=by show _+_*val B9 (aW B9 r)=_;rw[ival]
   have p:trim (((N.getD i 0::aW B9 r).drop 0).take (1+b))=aW B9 (N.getD i 0+B9*r):=by rw[qLy,List.take_of_length_le (by rw[qLl];omega)];exact lX b9 d B
   have htake:(N.getD i 0::aW B9 r).take (aW B9 (N.getD i 0+B9*r)).length=aW B9 (N.getD i 0+B9*r):=by have:=mG (N.getD i 0::aW B9 r);rwa[lX b9 d B]at this
   have e:N.getD i 0+B9*r<B9*D:=by grind
   have G:(aW B9 (N.getD i 0+B9*r)).length<=900001:=by have q:=uXt (k:=900000) m e;exact q
   have f:val B9 (N.drop i)=N.getD i 0+B9*(val B9 a*D+r):=by rw[kT (l:=N) (k:=i) (by omega)];show _+_*val B9 (N.drop (i+1))=_;rw[g]
   rw[u,qCt];refine condP (show 1+b<=2147483648 by omega) ?_;simp only[qIt,dK];rw[x,hcons,c130 X hX _ (by rw[qLl];omega) 0 (1+b) (by rw[qLl];omega),p];simp only[qOb,qLh,xs_arr,sOff_slice,sLen_slice];have z:((aY .i64 (N.getD i 0::aW B9 r)).drop 0).take (aW B9 (N.getD i 0+B9*r)).length=nI (N.getD i 0+B9*r):=by rw[qLy,jv,htake]
   rw[z,WA X hX _ _ (by omega) (by omega)];simp only[qOb,qLh,pv_p,toInt_int];by_cases q:N.getD i 0+B9*r<D
   . refine condP ((BJ _ _).2 q) ?_;rw[C,List.replicate_succ',List.append_assoc];refine A _ _ _ _ (by simp;omega) (oQ.2 ⟨by decide,c⟩) htake rfl q ?_;rw[f];show _=(0+B9*val B9 a)*D+_;grind
   . refine condNP (λh=>q ((BJ _ _).1 h)) ?_;have H:=Nat.div_add_mod (N.getD i 0+B9*r) D;have w:=qNm (N.getD i 0+B9*r) o;have j:N.getD i 0+B9*r-D*((N.getD i 0+B9*r) / D)=(N.getD i 0+B9*r)%D:=by omega
     have v:(N.getD i 0+B9*r) / D<B9:=by rw[Nat.div_lt_iff_lt_mul o];exact e
     refine YA X hX N _ D (N.getD i 0+B9*r) _ i N.length (List.replicate (i+1) 0++a) o (by omega) (by omega) F htake (by omega) e _ ?_ 999999999 0 999999999 (by omega) (by omega) (by decide) (by omega) ?_
     . rw[set_last,j];refine A _ _ _ _ (by simp;omega) (oQ.2 ⟨v,c⟩) (List.take_length) rfl w ?_;rw[f];show _=((N.getD i 0+B9*r) / D+B9*val B9 a)*D+_;grind
     grind
theorem YB(x D:Nat)(b:0<D)(a:(aW B9 D).length<=900000)(c:(aW B9 x).length<=1000000):run tab X 176 [An (nI x),An (nI D)] []=some ([.fresh false kI (nI (x / D)),An (nI (x%D))],[]):=
 run_of (hX _ rfl) (by
  have d:(leI (0:Int) ((((aW B9 x).length:Nat):Int))&&(leI ((((aW B9 x).length:Nat):Int)) ((((aW B9 x).length:Nat):Int))&&leI ((((aW B9 x).length:Nat):Int)) (2147483648:Int)))=true:=by simp;omega
  rw[abg];simp only[bG];rw[d,qCt,qIt,iI,wrap_eq (by omega) (by omega)];have:=ac2 X hX (aW B9 x) D b a (Qr x) c (aW B9 x).length 0 0 [] [] (by simp) (pY _) (by rw[dF];rfl) (by rw[dF];rfl) b (by rw[List.drop_length];simp[val]);rw[List.append_nil,ival]at this;exact this)
end
end
section
variable {x y:Int}{k:Nat}
def eI(z:Int):PV:=.agg [.bool (decide (z<0)),At (nI z.natAbs)]
theorem dI(z:Int):PV.agg [.bool (((eI z).cell 0).toBool),At (((eI z).cell 1).toList)]=eI z:=rfl
def jd(z:Int)(k:Nat):Prop:=(aW B9 z.natAbs).length<=k
theorem bJ{z:Int}{a b:Nat}(h:jd z a)(c:a<=b):jd z b:=Nat.le_trans h c
theorem Bc(b:jd x k)(a:jd y k):jd (x+y) (k+1):=by refine uX ?_;have d:=zk b;have c:=zk a;grind
theorem yE(a:jd x k):jd (-x) k:=by unfold jd;rw[Int.natAbs_neg];exact a
theorem iD{l:Nat}(b:jd x k)(a:jd y l):jd (x*y) (k+l):=by refine uX ?_;rw[Int.natAbs_mul,Nat.pow_add];exact Nat.mul_lt_mul'' (zk b) (zk a)
section
variable (X:Ext) (hX:Mine X)
include hX
theorem c131(a:Bool)(m:Nat):run tab X 131 [Ac a,An (nI m)] []=some ([.p (eI (if a then -(m:Int)else m))],[]):=
 run_of (hX _ rfl) (by
  rw[aaQ,eI];cases a with
  | true =>
   rw[qCt,if_pos rfl,Int.natAbs_neg,Int.natAbs_natCast,bG];have e:gtI ((aW B9 m).length:Int) 0=decide (-(m:Int)<0):=decide_eq_decide.2 (by
    constructor
    . intro h;rcases Nat.eq_zero_or_pos m with b | b;all_goals grind[dF]
    . intro h;have:aW B9 m≠[]:=λb=>by have:=(kP b9).1 b;omega
      have:=List.length_pos_iff.2 this;omega)
   rw[e]
  | false=>rfl)
theorem WB(x y:Int)(f:jd x 10000000)(d:jd y 10000000):run tab X 142 [.p (eI x),.p (eI y)] []=some ([.p (eI (x+y))],[]):=
 run_of (hX _ rfl) (by
  have e:(aW B9 x.natAbs).length<=10000000:=f;have c:(aW B9 y.natAbs).length<=10000000:=d;rw[eI,eI,aaX];by_cases h:decide (x<0)=decide (y<0)
  . rw[show(decide (x<0)==decide (y<0))=true by simp[h],qCt,ac0 X hX _ _ (by omega) (by omega)];simp only[qOb,qLh,freshList_fresh,qLy,List.take_length];rw[c131 X hX];grind[qOb,qLh,pv_p,dI]
  . rw[show(decide (x<0)==decide (y<0))=false by simp[h],qCf,WA X hX _ _ (by omega) (by omega)];simp only[qOb,qLh,pv_p,toInt_int];by_cases a:y.natAbs<=x.natAbs
    . refine condP (Int.not_lt.1 λb=>absurd ((BJ _ _).1 b) (by omega)) ?_;rw[c175 X hX _ _ (Qr _) (Qr _) (by omega) (oK a) (by rw[ival,ival];exact a),ival,ival];simp only[qOb,qLh,freshList_fresh,qLy,List.take_length];rw[c131 X hX];grind[qOb,qLh,pv_p,dI]
    . refine condNP (λb=>absurd ((BJ x.natAbs y.natAbs).2 (by omega)) (by omega)) ?_;rw[c175 X hX _ _ (Qr _) (Qr _) (by omega) (oK (by omega)) (by rw[ival,ival];omega),ival,ival];simp only[qOb,qLh,freshList_fresh,qLy,List.take_length];rw[c131 X hX];grind[qOb,qLh,pv_p,dI])
theorem c127(x y:Int)(d:jd x 10000000)(b:jd y 10000000):run tab X 127 [.p (eI x),.p (eI y)] []=some ([.p (eI (x*y))],[]):=
 run_of (hX _ rfl) (by have c:(aW B9 x.natAbs).length<=10000000:=d;have a:(aW B9 y.natAbs).length<=10000000:=b;rw[eI,eI,e127,c160 X hX _ _ (Qr _) (Qr _) (by omega),ival,ival];simp only[qOb,qLh,freshList_fresh,qLy,List.take_length];rw[c131 X hX];simp only[qOb,qLh,pv_p,dI];grind)
theorem c148(x:Int):run tab X 148 [.p (eI x)] []=some ([.p (eI (-x))],[]):=
 run_of (hX _ rfl) (by rw[eI,aa1,c131 X hX];grind[qOb,qLh,pv_p,dI])
theorem WC(x:Int):run tab X 147 [.p (eI x)] []=some ([Ab x.sign],[]):=
 run_of (hX _ rfl) (by
  rw[eI,aa0];simp only[bG];by_cases h:x=0
  . simp_all[Int.natAbs_zero,dF]
  . have a:aW B9 x.natAbs≠[]:=λb=>by have:=(kP b9).1 b;omega
    have:=List.length_pos_iff.2 a;grind)
theorem WE(x y:Int)(b:jd x 10000000)(a:jd y 10000000):run tab X 132 [.p (eI x),.p (eI y)] []=some ([.p (eI (x-y))],[]):=
 run_of (hX _ rfl) (by have d:=c148 X hX y;have c:=WB X hX x (-y) b (yE a);grind[aaR,qOb,qLh,pv_p,dI,Int.sub_eq_add_neg])
theorem ac4(x y:Int)(c:jd x 10000000)(b:jd y 10000000):run tab X 126 [.p (eI x),.p (eI y)] []=some ([Ab (x-y).sign],[]):=
 run_of (hX _ rfl) (by have a:=WE X hX x y c b;rw[eI,eI]at a;rw[eI,eI,e126,a];simp only[qOb,qLh,pv_p,dI,WC X hX,toInt_int])
end
end
section
theorem wK(z:Int):eI z=PV.agg [PV.bool (decide (z<0)),At (nI z.natAbs)]:=rfl
section
variable (X:Ext) (hX:Mine X)
include hX
theorem l146:∀(y x:Nat),(aW B9 x).length<=900000->(aW B9 y).length<=900000->L tab (run tab X) 146 [] [.lp [1,1,0,0]] (yO (nI x) (nI y) false)=some ([.p (eI (Nat.gcd x y:Nat))],[]):=by
 intro y;induction y using Nat.strongRecOn with
 | ind y c =>
  intro x e a;refine L_of ?_;rw[Px];simp only[bG];rcases Nat.eq_zero_or_pos y with h | h
  . subst h;refine condNP (by rw[dF];simp) ?_;rw[Nat.gcd_zero_right,c131 X hX];rfl
  . have b:aW B9 y≠[]:=λd=>by have:=(kP b9).1 d;omega
    have f:=List.length_pos_iff.2 b;refine condP (by omega) ?_;rw[YB X hX x y h a (by omega)];simp only[qOb,qLh,List.tail_cons,pv_p,toList_list];rw[c (x%y) (qNm _ h) y a (Nat.le_trans (oK (Nat.le_of_lt (qNm _ h))) a),Nat.gcd_comm x y,Nat.gcd_rec y x,Nat.gcd_comm y (x%y)]
theorem c146(x y:Int)(b:jd x 900000)(a:jd y 900000):run tab X 146 [.p (eI x),.p (eI y)] []=some ([.p (eI (Int.gcd x y:Nat))],[]):=
 run_of (hX _ rfl) (by rw[wK x,wK y,aaZ];exact l146 X hX _ _ b a)
theorem UR(x y:Int)(d:jd x 900000)(h:jd y 900000)(j:y≠0)(hd:y ∣ x):run tab X 149 [.p (eI x),.p (eI y)] []=some ([.p (eI (x / y)),.p (eI 0)],[]):=
 run_of (hX _ rfl) (by
  have b:0<y.natAbs:=by omega
  have l:(if(!(decide (x<0)==decide (y<0)))then -((x.natAbs / y.natAbs:Nat):Int)else((x.natAbs / y.natAbs:Nat):Int))=x / y:=by
   obtain⟨k,rfl⟩:=hd;rw[Int.mul_ediv_cancel_left _ j,Int.natAbs_mul,Nat.mul_div_cancel_left _ b];rcases Int.lt_trichotomy k 0 with c | c | c
   . rcases Int.lt_trichotomy y 0 with a | a | a
     . have:=Int.mul_pos_of_neg_of_neg a c;grind
     . grind
     . have:=Int.mul_neg_of_pos_of_neg a c;grind
   . omega
   . rcases Int.lt_trichotomy y 0 with a | a | a
     . have:=Int.mul_neg_of_neg_of_pos a c;grind
     . grind
     . have:=Int.mul_pos a c;grind
  have e:jd (x / y) 900000:=by obtain⟨k,rfl⟩:=hd;rw[Int.mul_ediv_cancel_left _ j];refine Nat.le_trans (oK ?_) d;rw[Int.natAbs_mul];exact Nat.le_mul_of_pos_left _ b
  have f:=c127 X hX (x / y) y (bJ e (by omega)) (bJ h (by omega));have i:=WE X hX x x (bJ d (by omega)) (bJ d (by omega));have g:=WC X hX 0;rw[Int.ediv_mul_cancel hd]at f;rw[Int.sub_self]at i;rw[wK y]at f ⊢;rw[wK x,aa2,YB X hX _ _ b h (Nat.le_trans d (by omega))];simp only[qOb,qLh,freshList_fresh,qLy,List.take_length];rw[c131 X hX,l];simp only[qOb,qLh,pv_p,dI];rw[f];simp only[qOb,qLh,pv_p,dI];rw[<- wK x,i];simp only[qOb,qLh,pv_p,dI];rw[g];rfl)
def eQ(n d:Int):PV:=.agg [.bool (decide (n<0)),At (nI n.natAbs),.bool (decide (d<0)),At (nI d.natAbs)]
theorem LG(a b:Int)(c:b<0):a / (-(Int.gcd a b:Int))=sV a b/\b / (-(Int.gcd a b:Int))=rQ a b:=by have hd:((Int.gcd a b:Nat):Int) ∣ a:=Int.gcd_dvd_left ..;rw[sV,rQ,Int.sign_eq_neg_one_of_neg c,Int.ediv_neg,Int.ediv_neg];refine⟨by omega,?_⟩;rw[show(b.natAbs:Int)=-b by omega,Int.neg_ediv_of_dvd (Int.gcd_dvd_right ..)]
theorem LH(a b:Int)(c:0<b):a / (Int.gcd a b:Int)=sV a b/\b / (Int.gcd a b:Int)=rQ a b:=by rw[sV,rQ,Int.sign_eq_one_of_pos c,show(b.natAbs:Int)=b by omega,Int.one_mul];simp
theorem c93(a b:Int)(m:jd a 800000)(i:jd b 800000)(n:b≠0):run tab X 93 [.p (eI a),.p (eI b)] []=some ([.p (eQ (sV a b) (rQ a b))],[]):=
 run_of (hX _ rfl) (by
  have l:0<Int.gcd a b:=Int.gcd_pos_of_ne_zero_right _ n;have c:jd (Int.gcd a b:Nat) 900000:=by refine Nat.le_trans (oK ?_) (Nat.le_trans i (show 800000<=900000 by omega));rw[Int.natAbs_natCast];exact Nat.le_of_dvd (by omega) (Nat.gcd_dvd_right _ _)
  have e:=bJ m (show 800000<=900000 by omega);have d:=bJ i (show 800000<=900000 by omega);have f:=c146 X hX a b e d;have g:=WC X hX b;have k:((Int.gcd a b:Nat):Int) ∣ a:=Int.gcd_dvd_left ..;have j:((Int.gcd a b:Nat):Int) ∣ b:=Int.gcd_dvd_right ..;by_cases h:b<0
  . have h4:=UR X hX a (-(Int.gcd a b:Nat)) e (yE c) (by omega) (Int.neg_dvd.2 k);have h5:=UR X hX b (-(Int.gcd a b:Nat)) d (yE c) (by omega) (Int.neg_dvd.2 j);rw[(LG X hX a b h).1]at h4;rw[(LG X hX a b h).2]at h5;rw[wK a]at f h4;rw[wK b]at f g h5;rw[wK a,wK b,e93,f];simp only[qOb,qLh,pv_p,dI];rw[g];simp only[qOb,qLh,pv_p,toInt_int];refine condP (by rw[Int.sign_eq_neg_one_of_neg h];decide) ?_;rw[c148 X hX];simp only[qOb,qLh,pv_p,dI];rw[h4];simp only[qOb,qLh,pv_p,dI];rw[h5];rfl
  . have h4:=UR X hX a (Int.gcd a b:Nat) e c (by omega) k;have h5:=UR X hX b (Int.gcd a b:Nat) d c (by omega) j;rw[(LH X hX a b (by omega)).1]at h4;rw[(LH X hX a b (by omega)).2]at h5;rw[wK a]at f h4;rw[wK b]at f g h5;rw[wK a,wK b,e93,f];simp only[qOb,qLh,pv_p,dI];rw[g];simp only[qOb,qLh,pv_p,toInt_int];refine condNP (by rw[Int.sign_eq_one_of_pos (by omega)];decide) ?_;rw[h4];simp only[qOb,qLh,pv_p,dI];rw[h5];rfl)
end
end
section
structure Vq (x y:Int) (k:Nat):Prop where
 n:jd x k
 d:jd y k
 p:y≠0
section
variable (X:Ext) (hX:Mine X)
include hX
theorem GX{x y:Int}(b:jd x 300000)(a:jd y 300000):run tab X 127 [.p (.agg [.bool (decide (x<0)),At (nI x.natAbs)]),.p (.agg [.bool (decide (y<0)),At (nI y.natAbs)])] []=some ([.p (eI (x*y))],[]):=
 c127 X hX x y (bJ b (by omega)) (bJ a (by omega))
theorem c67(a b c d:Int)(h:Vq a b 300000)(e:Vq c d 300000):run tab X 67 [.p (eQ a b),.p (eQ c d)] []=some ([Ab (a*d-c*b).sign],[]):=
 run_of (hX _ rfl) (by rw[eQ,eQ,e67,GX X hX h.n e.d];simp only[qOb,qLh,pv_p];rw[GX X hX e.n h.d];simp only[qOb,qLh,pv_p,dI];rw[ac4 X hX _ _ (bJ (iD h.n e.d) (by omega)) (bJ (iD e.n h.d) (by omega))];rfl)
theorem c85(a b c d:Int)(h:Vq a b 300000)(e:Vq c d 300000):run tab X 85 [.p (eQ a b),.p (eQ c d)] []=some ([.p (eQ (sV (a*c) (b*d)) (rQ (a*c) (b*d)))],[]):=
 run_of (hX _ rfl) (by rw[eQ,eQ,e85,GX X hX h.n e.n];simp only[qOb,qLh,pv_p];rw[GX X hX h.d e.d];simp only[qOb,qLh,pv_p,dI];rw[c93 X hX _ _ (bJ (iD h.n e.n) (by omega)) (bJ (iD h.d e.d) (by omega)) (Int.mul_ne_zero h.p e.p)];rfl)
theorem c86(a b c d:Int)(h:Vq a b 300000)(e:Vq c d 300000):run tab X 86 [.p (eQ a b),.p (eQ c d)] []=some ([.p (eQ (sV (a*d+c*b) (b*d)) (rQ (a*d+c*b) (b*d)))],[]):=
 run_of (hX _ rfl) (by have g:=iD h.n e.d;have f:=iD e.n h.d;rw[eQ,eQ,e86,GX X hX h.n e.d];simp only[qOb,qLh,pv_p];rw[GX X hX e.n h.d];simp only[qOb,qLh,pv_p,dI];rw[WB X hX _ _ (bJ g (by omega)) (bJ f (by omega))];simp only[qOb,qLh,pv_p,dI];rw[GX X hX h.d e.d];simp only[qOb,qLh,pv_p,dI];rw[c93 X hX _ _ (bJ (Bc g f) (by omega)) (bJ (iD h.d e.d) (by omega)) (Int.mul_ne_zero h.p e.p)];rfl)
theorem c145(a b c d:Int)(h:Vq a b 300000)(e:Vq c d 300000):run tab X 145 [.p (eQ a b),.p (eQ c d)] []=some ([.p (eQ (sV (a*d-c*b) (b*d)) (rQ (a*d-c*b) (b*d)))],[]):=
 run_of (hX _ rfl) (by have g:=iD h.n e.d;have f:=iD e.n h.d;rw[eQ,eQ,aaY,GX X hX h.n e.d];simp only[qOb,qLh,pv_p];rw[GX X hX e.n h.d];simp only[qOb,qLh,pv_p,dI];rw[WE X hX _ _ (bJ g (by omega)) (bJ f (by omega))];simp only[qOb,qLh,pv_p,dI];rw[GX X hX h.d e.d];simp only[qOb,qLh,pv_p,dI];rw[c93 X hX _ _ (bJ (show jd (a*d-c*b) 600001 by rw[Int.sub_eq_add_neg];exact Bc g (yE f)) (by omega)) (bJ (iD h.d e.d) (by omega)) (Int.mul_ne_zero h.p e.p)];rfl)
end
end
end Go.Skm.Fen
