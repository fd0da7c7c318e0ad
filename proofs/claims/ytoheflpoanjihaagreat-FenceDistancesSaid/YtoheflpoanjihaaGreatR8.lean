import Derived.Test.YtoheflpoanjihaaGreatR2
set_option linter.all false
namespace Go.Skm.Fen
open Go Go.Skm Go.Skm.Dig
section
section
variable (X:Ext) (hX:Mine X)
include hX
theorem Ws(N M:List Nat)(F:ok B9 N)(G:ok B9 M)(i n:Nat)(U:n=N.length)(hi:i<n)(C:n+M.length<=100000000)
    (r:List AV × List Blk)(K:∀ d:List Nat,d.length=n+M.length->ok B9 d->val B9 d=val B9 (N.take (i+1))*val B9 M ->
      L tab (run tab X) 160 [] [.lp [1,1,0,1,0]] (oQ (aY .i64 N) (aY .i64 M) 0 (n+M.length) (i+1:Nat) (aY .i64 d))=some r):∀(q k c:Nat) (a:List Nat),k+q=M.length+1->a.length=n+M.length->ok B9 a->c<B9 ->
    val B9 a+B9^(i+k)*c=val B9 (N.take i)*val B9 M+B9^i*(N.getD i 0*val B9 (M.take k)) ->
    L tab (run tab X) 160 [] [.lp [1,1,0,1,0],.lp [1,0,0,1,1,0]] (dW (aY .i64 N) (aY .i64 M) 0 (n+M.length) i c k (aY .i64 a))=some r:=by
  have _:=hX;have B:IntKind.i64.wrap ((i:Int)+1)=((i+1:Nat):Int):=by rw[wrap_eq (by omega) (by omega)];omega
  have total:val B9 (N.take i)*val B9 M+B9^i*(N.getD i 0*val B9 M)=val B9 (N.take (i+1))*val B9 M:=by rw[lg,Nat.add_mul,Nat.mul_assoc]
  have bound:val B9 (N.take (i+1))*val B9 M<B9^(i+M.length+1):=by have u:=jQ (xI F (i+1));rw[List.length_take,Nat.min_eq_left (by omega)]at u;have A:=jQ G;rw[show i+M.length+1=(i+1)+M.length by omega,Nat.pow_add];exact Nat.mul_lt_mul'' u A
  have o:∀(k:Nat) (a:List Nat),M.length<=k->a.length=n+M.length->ok B9 a->val B9 a+B9^(i+k)*0=val B9 (N.take i)*val B9 M+B9^i*(N.getD i 0*val B9 (M.take k)) ->
      L tab (run tab X) 160 [] [.lp [1,1,0,1,0]] (oQ (aY .i64 N) (aY .i64 M) 0 (n+M.length) (i+1:Nat) (aY .i64 a))=some r:=by
    intro k a u A Z h4;rw[jk _ M k u,total,Nat.mul_zero,Nat.add_zero]at h4;exact K a A Z h4
  intro q;induction q with
  | zero =>
   intro k c a T t g E l;have y:k=M.length+1:=by omega
   subst y;have c0:c=0:=by
    rcases Nat.eq_zero_or_pos c with h | h
    . exact h
    . exfalso;rw[jk _ M _ (by omega),total]at l;have:=Nat.mul_le_mul_left (B9^(i+(M.length+1))) h;rw[Nat.add_assoc]at bound;omega
   subst c0;refine L_of ?_;rw[rZ];refine condNP (by simp;omega) (condNP (by simp) ?_);rw[B];exact o _ a (by omega) t g l
  | succ q Q =>
   intro k c a T t g E l;have W:c<1000000000:=E;have ha:N.getD i 0<1000000000:=dZ F (by decide) i;have hb:M.getD k 0<1000000000:=dZ G (by decide) k;have ho:a.getD (i+k) 0<1000000000:=dZ g (by decide) _;have Y:N.getD i 0*M.getD k 0<=999999999*999999999:=Nat.mul_le_mul (by omega) (by omega);have I:IntKind.i64.wrap ((i:Int)+(k:Int))=((i+k:Nat):Int):=by rw[wrap_eq (by omega) (by omega)];omega
   have H:IntKind.i64.wrap ((k:Int)+1)=((k+1:Nat):Int):=by rw[wrap_eq (by omega) (by omega)];omega
   have D:(leI (0:Int) ((i+k:Nat):Int)&&ltI ((i+k:Nat):Int) ((n+M.length:Nat):Int))=true:=by simp;omega
   have m:∀ s:Nat,s=a.getD (i+k) 0+c+N.getD i 0*M.getD k 0 ->
       L tab (run tab X) 160 [] [.lp [1,1,0,1,0],.lp [1,0,0,1,1,0]] (dW (aY .i64 N) (aY .i64 M) 0 (n+M.length) i (IntKind.i64.wrap ((s:Int).tdiv 1000000000)) (k+1:Nat) ((aY .i64 a).set (i+k) (.int .i64 ((s:Int).tmod 1000000000))))=some r:=by
     intro s C;rw[show(1000000000:Int)=((B9:Nat):Int) from rfl,F7,Jr,gW];have p:s / B9<B9:=by show s / 1000000000<1000000000;omega
     have j:s%B9<B9:=qNm _ (by decide);have f:=Nat.mod_add_div s B9;revert p j f;generalize s / B9=c';generalize s%B9=e;intro p j f;have R:c'<1000000000:=p;rw[wrap_eq (by omega) (by omega)];refine Q (k+1) c' _ (by omega) (by simpa using t) (KJ g j _) p ?_;have vs:=CU B9 e a (i+k) (by omega);rw[lg,<- Nat.add_assoc i k 1,Nat.pow_succ,Nat.mul_add (N.getD i 0),Nat.mul_add (B9^i),<- Nat.add_assoc,<- l];have e1:B9^i*(N.getD i 0*(B9^k*M.getD k 0))=B9^(i+k)*(N.getD i 0*M.getD k 0):=by rw[Nat.pow_add,Nat.mul_left_comm (N.getD i 0),Nat.mul_assoc]
     have e2:B9^(i+k)*(e+B9*c')=B9^(i+k)*(a.getD (i+k) 0+c+N.getD i 0*M.getD k 0):=by rw[f,C]
     rw[Nat.mul_add,Nat.mul_add,Nat.mul_add]at e2;rw[e1,Nat.mul_assoc];omega
   refine L_of ?_;rw[rZ];simp only[I,H,qIt,dD,qNz];have P:IntKind.i64.wrap ((a.getD (i+k) 0:Int)+(c:Int))=((a.getD (i+k) 0+c:Nat):Int):=by rw[wrap_eq (by omega) (by omega)];omega
   have O:IntKind.i64.wrap ((N.getD i 0:Int)*(M.getD k 0:Int))=((N.getD i 0*M.getD k 0:Nat):Int):=by rw[<- Int.natCast_mul,wrap_eq (by omega) (by omega)]
   have J:IntKind.i64.wrap (((a.getD (i+k) 0+c:Nat):Int)+((N.getD i 0*M.getD k 0:Nat):Int))=((a.getD (i+k) 0+c+N.getD i 0*M.getD k 0:Nat):Int):=by rw[wrap_eq (by omega) (by omega)];omega
   rw[P,O,J];by_cases b:(k:Int)<((aY .i64 M).length:Nat)
   . have abe:k<M.length:=by simpa using b
     have w:(leI (0:Int) (i:Int)&&ltI (i:Int) (((aY .i64 N).length:Nat):Int))=true:=by simp;omega
     have v:(leI (0:Int) (k:Int)&&ltI (k:Int) (((aY .i64 M).length:Nat):Int))=true:=by simp at b ⊢;omega
     refine condP b ?_;rw[D,qCt];refine condP b ?_;rw[w,v,qCt,qCt,qCt];exact m _ rfl
   . have x:M.getD k 0=0:=uI (by simp at b;omega);have S:k=M.length:=by simp at b;omega
     refine condNP b ?_;by_cases V:0<c
     . refine condP (show(c:Int) > 0 by omega) ?_;rw[D,qCt];refine condNP b ?_;rw[qCt];exact m _ (by rw[x,Nat.mul_zero,Nat.add_zero])
     . have z:c=0:=by omega
       refine condNP (show ¬(c:Int) > 0 by omega) ?_;rw[B];rw[z]at l;exact o k a (by omega) t g l
theorem abg(N M:List Nat)(j:ok B9 N)(k:ok B9 M)(g:N.length+M.length<=100000000):∀(q i:Nat) (a:List Nat),i+q=N.length->a.length=N.length+M.length->ok B9 a ->
    val B9 a=val B9 (N.take i)*val B9 M ->
    L tab (run tab X) 160 [] [.lp [1,1,0,1,0]] (oQ (aY .i64 N) (aY .i64 M) 0 (N.length+M.length) i (aY .i64 a))=some ([.fresh false kI (aY .i64 (aW B9 (val B9 N*val B9 M)))],[]):=by
  intro q;induction q with
  | zero =>intro i a h e b d;refine L_of ?_;rw[Du];refine condNP (by simp;omega) ?_;rw[jk _ N _ (by omega)]at d;rw[<- d];exact BG X hX _ (by omega) b _ e.symm
  | succ q f =>intro i a h e b d;refine L_of ?_;rw[Du];refine condP (by simp;omega) ?_;refine Ws X hX N M j k i N.length rfl (by omega) g _ ?_ (M.length+1) 0 0 a (by omega) e b (by decide) (by rw[d];simp[val]);intro c n m l;exact f (i+1) c (by omega) n m l
theorem c160(N M:List Nat)(b:ok B9 N)(c:ok B9 M)(a:N.length+M.length<=100000000):run tab X 160 [.p (.list false kI (aY .i64 N)),.p (.list false kI (aY .i64 M))] []=some ([.fresh false kI (aY .i64 (aW B9 (val B9 N*val B9 M)))],[]):=
 run_of (hX _ rfl) (by
  have w:IntKind.i64.wrap (((N.length:Nat):Int)+((M.length:Nat):Int))=((N.length+M.length:Nat):Int):=by rw[wrap_eq (by omega) (by omega)];omega
  have d:(leI (0:Int) (((N.length+M.length:Nat):Int))&&(leI (((N.length+M.length:Nat):Int)) (((N.length+M.length:Nat):Int))&&leI (((N.length+M.length:Nat):Int)) (2147483648:Int)))=true:=by simp;omega
  rw[e160];simp only[bG];rw[w,d,qCt,qIt,gK];exact abg X hX N M b c a N.length 0 _ (by omega) (by simp) (zS (by decide) _) (by rw[tK];simp[val]))
end
end
section
variable {k n:Nat}
abbrev nI(n:Nat):List PV:=aY .i64 (aW B9 n)
theorem Oe(n:Nat):ok B9 (aW B9 n):=qI b9 n
theorem ival(n:Nat):val B9 (aW B9 n)=n:=kD b9 n
theorem Qb(n:Nat):Dig.tight (aW B9 n):=oO b9 n
theorem MK:nI 0=[]:=by rw[nI,bZ];rfl
theorem xJ(h:(aW B9 n).length<=k):n<B9^k:=Nat.lt_of_lt_of_le (nN b9) (Nat.pow_le_pow_right (by decide) h)
theorem sS(h:n<B9^k):(aW B9 n).length<=k:=kG b9 h
theorem sSs{d:Nat}(h:(aW B9 d).length<=k)(g:n<B9):(aW B9 (d*n)).length<=k+1:=sS (by rw[Nat.pow_succ];exact Nat.mul_lt_mul'' (xJ h) g)
theorem sSt{a e:Nat}(o:(aW B9 e).length<=k)(d:a<B9*e):(aW B9 a).length<=k+1:=sS (Nat.lt_trans d (by rw[Nat.pow_succ'];exact Nat.mul_lt_mul_of_pos_left (xJ o) (by decide)))
theorem nD{a b:Nat}(h:a<=b):(aW B9 a).length<=(aW B9 b).length:=sS (Nat.lt_of_le_of_lt h (nN b9))
theorem ML(a b:Nat):xW a b<=0↔a<=b:=by unfold xW;split<;>(try split)<;>simp<;>omega
theorem zT(a b:Nat):xW a b<0↔a<b:=by unfold xW;split<;>(try split)<;>simp<;>omega
section
variable (X:Ext) (hX:Mine X)
include hX
theorem Ul(x y:Nat)(b:(aW B9 x).length<=100000000)(a:(aW B9 y).length<=100000000):run tab X 174 [.p (.list false kI (nI x)),.p (.list false kI (nI y))] []=some ([.p (.int .i64 (xW x y))],[]):=by rw[aa9 X hX _ _ (Oe x) (Oe y) (Qb x) (Qb y) b a,ival,ival]
theorem Wu(x n:Nat)(a:n<B9)(b:(aW B9 x).length<=10000000):run tab X 129 [.p (.list false kI (nI x)),.p (.int .i64 n)] []=some ([.fresh false kI (nI (x*n))],[]):=
 run_of (hX _ rfl) (by
  rw[e129];by_cases h:n=0
  . subst h;rw[Nat.mul_zero,MK];rfl
  . rw[show((n:Int)==0)=false by simp;exact h,qCf,show([PV.int .i64 (n:Int)]:List PV)=aY .i64 [n] from rfl,c160 X hX _ _ (Oe x) (λd hd=>by rw[List.mem_singleton.1 hd];exact a) (by simp;omega),ival,val_one];simp only[qOb,qLh,freshList_fresh,qLy,List.take_length])
theorem Wv(N Rb:List Nat)(D r l i qn:Nat)(Q:List Nat)(x:0<D)(s:(aW B9 D).length<=1000000)(M:i<qn)(z:qn<=1000000)(F:Rb.take l=aW B9 r)(y:(aW B9 r).length<=2000000)(J:r<B9*D)
    (c:List AV × List Blk)(K:L tab (run tab X) 176 [] [.lp [1,1,1,0,1,0]] (mX (aY .i64 N) (nI D) 0 qn 0 (aW B9 (r-D*(r / D))).length ((i:Int)-1) (aY .i64 (Q.set i (r / D))) (nI (r-D*(r / D))))=some c):∀(m low a:Nat),a-low<=m->low<=a->a<B9->D*low<=r->r<D*(a+1) ->
    L tab (run tab X) 176 [] [.lp [1,1,1,0,1,0],.lp [1,0,0,1,1,1,0,0]] (fO (aY .i64 N) (nI D) 0 qn 0 l i low a (aY .i64 Q) (aY .i64 Rb))=some c:=by
  have j:((aY .i64 Rb).drop 0).take l=nI r:=by rw[qLy,iT,F]
  have g:∀ n,n<B9->(aW B9 (D*n)).length<=1000001:=by intro n B;have q:=sSs (k:=1000000) s B;exact q
  have hdone:∀ low a:Nat,low<=a->¬ low<a->a<B9->D*low<=r->r<D*(a+1)->L tab (run tab X) 176 [] [.lp [1,1,1,0,1,0],.lp [1,0,0,1,1,1,0,0]] (fO (aY .i64 N) (nI D) 0 qn 0 l i low a (aY .i64 Q) (aY .i64 Rb))=some c:=by
   intro low a o f e h4 h5;have E:a=low:=by omega
   subst E;have A:a=r / D:=Ou x (Nat.le_of_lt_succ ((Nat.div_lt_iff_lt_mul x).2 (by rw[Nat.mul_comm];exact h5))) h4;refine L_of ?_;rw[pW];refine condNP (by omega) ?_;have p:(leI (0:Int) (i:Int)&&ltI (i:Int) (qn:Int))=true:=by simp;omega
   rw[p,qCt,Wu X hX D a e (by omega)];simp only[qOb,qLh,freshList_fresh];rw[j,qLy,List.take_length,c175 X hX _ _ (Oe _) (Oe _) (by omega) (nD h4) (by rw[ival,ival];exact h4),ival,ival];simp only[qOb,qLh,freshList_fresh,qIt,qNz,bG];rw[wrap_eq (by omega) (by omega),gW,A];exact K
  intro m;induction m with
  | zero =>intro low a C o f e h4;exact hdone low a o (by omega) f e h4
  | succ m w =>
   intro low a C o f e h4;by_cases q:low<a
   . have G:a<1000000000:=f;refine L_of ?_;rw[pW];refine condP (by omega) ?_;have I:IntKind.i64.wrap ((low:Int)+(a:Int))=((low+a:Nat):Int):=by rw[wrap_eq (by omega) (by omega)];omega
     have H:IntKind.i64.wrap (((low+a:Nat):Int)+1)=((low+a+1:Nat):Int):=by rw[wrap_eq (by omega) (by omega)];omega
     have v:IntKind.i64.wrap (((low+a+1:Nat):Int).tdiv 2)=(((low+a+1) / 2:Nat):Int):=by rw[show(2:Int)=((2:Nat):Int) from rfl,F7,wrap_eq (by omega) (by omega)]
     have u:IntKind.i64.wrap ((((low+a+1) / 2:Nat):Int)-1)=(((low+a+1) / 2-1:Nat):Int):=by rw[wrap_eq (by omega) (by omega)];omega
     simp only[I,H,v,u];have b:(low+a+1) / 2<B9:=by show _<1000000000;omega
     have b1:low<(low+a+1) / 2:=by omega
     have t:(low+a+1) / 2<=a:=by omega
     revert v u b b1 t;generalize (low+a+1) / 2=mid;intro v u b b1 t;rw[Wu X hX D mid b (by omega)];simp only[qOb,qLh,freshList_fresh];rw[j,qLy,List.take_length,Ul X hX _ _ (Nat.le_trans (g mid b) (by omega)) (by omega)];simp only[qOb,qLh,pv_p,toInt_int];by_cases d:D*mid<=r
     . refine condP ((ML _ _).2 d) ?_;exact w mid a (by omega) t f d h4
     . refine condNP (λh=>d ((ML _ _).1 h)) ?_;refine w low (mid-1) (by omega) (by omega) (by omega) e ?_;rw[show mid-1+1=mid by omega];omega
   . exact hdone low a o q f e h4
end
end
section
section
variable (X:Ext) (hX:Mine X)
include hX
theorem abh(N:List Nat)(D:Nat)(u:0<D)(o:(aW B9 D).length<=900000)(O:ok B9 N)(K:N.length<=1000000):∀(k r b:Nat) (Rb a:List Nat),k+a.length=N.length->ok B9 a->Rb.take b=aW B9 r->b=(aW B9 r).length->r<D ->
    val B9 (N.drop k)=val B9 a*D+r ->
    L tab (run tab X) 176 [] [.lp [1,1,1,0,1,0]] (mX (aY .i64 N) (nI D) 0 N.length 0 b ((k:Int)-1) (aY .i64 (List.replicate k 0++a)) (aY .i64 Rb))=some ([.fresh false kI (nI (val B9 N / D)),.p (.list false kI (nI (val B9 N%D)))],[]):=by
  intro k;induction k with
  | zero =>
   intro r b Rb a J c E x m g;refine L_of ?_;rw[Bg];refine condNP (by simp) ?_;rw[qLy]at g;have Q:val B9 N / D=val B9 a:=by rw[g,Nat.mul_comm,Nat.mul_add_div u,Nat.div_eq_of_lt m,Nat.add_zero]
   have P:val B9 N%D=r:=by rw[g,Nat.mul_comm,Nat.mul_add_mod,Nat.mod_eq_of_lt m]
   rw[Q,P,List.replicate_zero,List.nil_append,c130 X hX a (by omega) 0 _ (by omega)];simp only[qOb,qLh,xs_arr,sOff_slice,sLen_slice];have t:((aY .i64 a).drop 0).take (trim ((a.drop 0).take N.length)).length=nI (val B9 a):=by rw[qLy,qLy,show N.length=a.length by omega,List.take_length,iT,lI,lq b9 c rfl]
   rw[t,qLy,iT,E]
  | succ i G =>
   intro r b Rb a J c E x m g;refine L_of ?_;rw[show((i+1:Nat):Int)-1=(i:Int) by omega,Bg];refine condP (by omega) ?_;have hd:N.getD i 0<B9:=dZ O (by decide) i;have y:(leI (0:Int) (i:Int)&&ltI (i:Int) (((aY .i64 N).length:Nat):Int))=true:=by simp;omega
   have I:IntKind.i64.wrap ((i:Int)-1)=(i:Int)-1:=wrap_eq (by omega) (by omega);have hrlen:(aW B9 r).length<=900000:=Nat.le_trans (nD (Nat.le_of_lt m)) o;have C:((aY .i64 Rb).drop 0).take b=nI r:=by rw[qLy,iT,E]
   have hcons:([PV.int .i64 ((N.getD i 0:Nat):Int)]:List PV)++nI r=aY .i64 (N.getD i 0::aW B9 r):=rfl;have e:ok B9 (N.getD i 0::aW B9 r):=nM.2 ⟨hd,Oe r⟩;have H:val B9 (N.getD i 0::aW B9 r)=N.getD i 0+B9*r:=by show _+_*val B9 (aW B9 r)=_;rw[ival]
   have v:trim (((N.getD i 0::aW B9 r).drop 0).take (1+b))=aW B9 (N.getD i 0+B9*r):=by rw[qLy,List.take_of_length_le (by rw[qLl];omega)];exact lq b9 e H
   have htake:(N.getD i 0::aW B9 r).take (aW B9 (N.getD i 0+B9*r)).length=aW B9 (N.getD i 0+B9*r):=by have:=lI (N.getD i 0::aW B9 r);rwa[lq b9 e H]at this
   have d:N.getD i 0+B9*r<B9*D:=by have:=Nat.mul_le_mul_left B9 m;rw[Nat.mul_succ]at this;omega
   have M:(aW B9 (N.getD i 0+B9*r)).length<=900001:=by have q:=sSt (k:=900000) o d;exact q
   have f:val B9 (N.drop i)=N.getD i 0+B9*(val B9 a*D+r):=by rw[jP (l:=N) (k:=i) (by omega)];show _+_*val B9 (N.drop (i+1))=_;rw[g]
   rw[y,qCt];refine condP (show 1+b<=2147483648 by omega) ?_;simp only[qIt,dD];rw[C,hcons,c130 X hX _ (by rw[qLl];omega) 0 (1+b) (by rw[qLl];omega),v];simp only[qOb,qLh,xs_arr,sOff_slice,sLen_slice];have F:((aY .i64 (N.getD i 0::aW B9 r)).drop 0).take (aW B9 (N.getD i 0+B9*r)).length=nI (N.getD i 0+B9*r):=by rw[qLy,iT,htake]
   rw[F,Ul X hX _ _ (by omega) (by omega)];simp only[qOb,qLh,pv_p,toInt_int];by_cases w:N.getD i 0+B9*r<D
   . refine condP ((zT _ _).2 w) ?_;rw[I,List.replicate_succ',List.append_assoc];refine G _ _ _ _ (by simp;omega) (nM.2 ⟨by decide,c⟩) htake rfl w ?_;rw[f];show _=(0+B9*val B9 a)*D+_;rw[qNz,Nat.mul_add,Nat.mul_assoc];omega
   . refine condNP (λh=>w ((zT _ _).1 h)) ?_;have n:=Nat.div_add_mod (N.getD i 0+B9*r) D;have A:=qNm (N.getD i 0+B9*r) u;have j:N.getD i 0+B9*r-D*((N.getD i 0+B9*r) / D)=(N.getD i 0+B9*r)%D:=by omega
     have z:(N.getD i 0+B9*r) / D<B9:=by rw[Nat.div_lt_iff_lt_mul u];exact d
     refine Wv X hX N _ D (N.getD i 0+B9*r) _ i N.length (List.replicate (i+1) 0++a) u (by omega) (by omega) K htake (by omega) d _ ?_ 999999999 0 999999999 (by omega) (by omega) (by decide) (by omega) ?_
     . rw[set_last,j];refine G _ _ _ _ (by simp;omega) (nM.2 ⟨z,c⟩) (List.take_length) rfl A ?_;rw[f];show _=((N.getD i 0+B9*r) / D+B9*val B9 a)*D+_;revert n;generalize (N.getD i 0+B9*r) / D=q;generalize (N.getD i 0+B9*r)%D=s;intro n;generalize B9=B at *;grind
     . rw[Nat.mul_comm D];exact d
theorem Wx(x D:Nat)(b:0<D)(a:(aW B9 D).length<=900000)(c:(aW B9 x).length<=1000000):run tab X 176 [.p (.list false kI (nI x)),.p (.list false kI (nI D))] []=some ([.fresh false kI (nI (x / D)),.p (.list false kI (nI (x%D)))],[]):=
 run_of (hX _ rfl) (by
  have d:(leI (0:Int) ((((aW B9 x).length:Nat):Int))&&(leI ((((aW B9 x).length:Nat):Int)) ((((aW B9 x).length:Nat):Int))&&leI ((((aW B9 x).length:Nat):Int)) (2147483648:Int)))=true:=by simp;omega
  rw[Zz];simp only[bG];rw[d,qCt,qIt,gK,wrap_eq (by omega) (by omega)];have:=abh X hX (aW B9 x) D b a (Oe x) c (aW B9 x).length 0 0 [] [] (by simp) (nK _) (by rw[bZ];rfl) (by rw[bZ];rfl) b (by rw[List.drop_length];simp[val]);rw[List.append_nil,ival]at this;exact this)
end
end
section
variable {x y:Int}{k:Nat}
def eI(z:Int):PV:=.agg [.bool (decide (z<0)),.list false kI (nI z.natAbs)]
theorem dF(z:Int):PV.agg [.bool (((eI z).cell 0).toBool),.list false kI (((eI z).cell 1).toList)]=eI z:=rfl
def fQ(z:Int)(k:Nat):Prop:=(aW B9 z.natAbs).length<=k
theorem bF{z:Int}{a b:Nat}(h:fQ z a)(c:a<=b):fQ z b:=Nat.le_trans h c
theorem zD(b:fQ x k)(a:fQ y k):fQ (x+y) (k+1):=by refine sS ?_;have d:=xJ b;have c:=xJ a;grind
theorem wM(a:fQ x k):fQ (-x) k:=by unfold fQ;rw[Int.natAbs_neg];exact a
theorem gu{l:Nat}(b:fQ x k)(a:fQ y l):fQ (x*y) (k+l):=by refine sS ?_;rw[Int.natAbs_mul,Nat.pow_add];exact Nat.mul_lt_mul'' (xJ b) (xJ a)
section
variable (X:Ext) (hX:Mine X)
include hX
theorem c131(a:Bool)(m:Nat):run tab X 131 [.p (.bool a),.p (.list false kI (nI m))] []=some ([.p (eI (if a then -(m:Int)else m))],[]):=
 run_of (hX _ rfl) (by
  rw[Za,eI];cases a with
  | true =>
   rw[qCt,if_pos rfl,Int.natAbs_neg,Int.natAbs_natCast,bG];have e:gtI ((aW B9 m).length:Int) 0=decide (-(m:Int)<0):=decide_eq_decide.2 (by
    constructor
    . intro h;rcases Nat.eq_zero_or_pos m with b | b;all_goals grind[bZ]
    . intro h;have:aW B9 m≠[]:=λb=>by have:=(jO b9).1 b;omega
      have:=List.length_pos_iff.2 this;omega)
   rw[e]
  | false=>rfl)
theorem Um(x y:Int)(f:fQ x 10000000)(d:fQ y 10000000):run tab X 142 [.p (eI x),.p (eI y)] []=some ([.p (eI (x+y))],[]):=
 run_of (hX _ rfl) (by
  have e:(aW B9 x.natAbs).length<=10000000:=f;have c:(aW B9 y.natAbs).length<=10000000:=d;rw[eI,eI,Zh];by_cases h:decide (x<0)=decide (y<0)
  . rw[show(decide (x<0)==decide (y<0))=true by simp[h],qCt,abf X hX _ _ (by omega) (by omega)];simp only[qOb,qLh,freshList_fresh,qLy,List.take_length];rw[c131 X hX];grind[qOb,qLh,pv_p,dF]
  . rw[show(decide (x<0)==decide (y<0))=false by simp[h],qCf,Ul X hX _ _ (by omega) (by omega)];simp only[qOb,qLh,pv_p,toInt_int];by_cases a:y.natAbs<=x.natAbs
    . refine condP (Int.not_lt.1 λb=>absurd ((zT _ _).1 b) (by omega)) ?_;rw[c175 X hX _ _ (Oe _) (Oe _) (by omega) (nD a) (by rw[ival,ival];exact a),ival,ival];simp only[qOb,qLh,freshList_fresh,qLy,List.take_length];rw[c131 X hX];grind[qOb,qLh,pv_p,dF]
    . refine condNP (λb=>absurd ((zT x.natAbs y.natAbs).2 (by omega)) (by omega)) ?_;rw[c175 X hX _ _ (Oe _) (Oe _) (by omega) (nD (by omega)) (by rw[ival,ival];omega),ival,ival];simp only[qOb,qLh,freshList_fresh,qLy,List.take_length];rw[c131 X hX];grind[qOb,qLh,pv_p,dF])
theorem c127(x y:Int)(d:fQ x 10000000)(b:fQ y 10000000):run tab X 127 [.p (eI x),.p (eI y)] []=some ([.p (eI (x*y))],[]):=
 run_of (hX _ rfl) (by have c:(aW B9 x.natAbs).length<=10000000:=d;have a:(aW B9 y.natAbs).length<=10000000:=b;rw[eI,eI,e127,c160 X hX _ _ (Oe _) (Oe _) (by omega),ival,ival];simp only[qOb,qLh,freshList_fresh,qLy,List.take_length];rw[c131 X hX];simp only[qOb,qLh,pv_p,dF];grind)
theorem c148(x:Int):run tab X 148 [.p (eI x)] []=some ([.p (eI (-x))],[]):=
 run_of (hX _ rfl) (by rw[eI,Zl,c131 X hX];grind[qOb,qLh,pv_p,dF])
theorem Un(x:Int):run tab X 147 [.p (eI x)] []=some ([.p (.int .i64 x.sign)],[]):=
 run_of (hX _ rfl) (by
  rw[eI,Zk];simp only[bG];by_cases h:x=0
  . simp_all[Int.natAbs_zero,bZ]
  . have a:aW B9 x.natAbs≠[]:=λb=>by have:=(jO b9).1 b;omega
    have:=List.length_pos_iff.2 a;grind)
theorem Uo(x y:Int)(b:fQ x 10000000)(a:fQ y 10000000):run tab X 132 [.p (eI x),.p (eI y)] []=some ([.p (eI (x-y))],[]):=
 run_of (hX _ rfl) (by have d:=c148 X hX y;have c:=Um X hX x (-y) b (wM a);grind[Zb,qOb,qLh,pv_p,dF,Int.sub_eq_add_neg])
theorem abk(x y:Int)(c:fQ x 10000000)(b:fQ y 10000000):run tab X 126 [.p (eI x),.p (eI y)] []=some ([.p (.int .i64 (x-y).sign)],[]):=
 run_of (hX _ rfl) (by have a:=Uo X hX x y c b;rw[eI,eI]at a;rw[eI,eI,e126,a];simp only[qOb,qLh,pv_p,dF,Un X hX,toInt_int])
end
end
section
theorem sU(z:Int):eI z=PV.agg [PV.bool (decide (z<0)),PV.list false kI (nI z.natAbs)]:=rfl
section
variable (X:Ext) (hX:Mine X)
include hX
theorem l146:∀(y x:Nat),(aW B9 x).length<=900000->(aW B9 y).length<=900000->L tab (run tab X) 146 [] [.lp [1,1,0,0]] (xg (nI x) (nI y) false)=some ([.p (eI (Nat.gcd x y:Nat))],[]):=by
 intro y;induction y using Nat.strongRecOn with
 | ind y c =>
  intro x e a;refine L_of ?_;rw[Nu];simp only[bG];rcases Nat.eq_zero_or_pos y with h | h
  . subst h;refine condNP (by rw[bZ];simp) ?_;rw[Nat.gcd_zero_right,c131 X hX];rfl
  . have b:aW B9 y≠[]:=λd=>by have:=(jO b9).1 d;omega
    have f:=List.length_pos_iff.2 b;refine condP (by omega) ?_;rw[Wx X hX x y h a (by omega)];simp only[qOb,qLh,List.tail_cons,pv_p,toList_list];rw[c (x%y) (qNm _ h) y a (Nat.le_trans (nD (Nat.le_of_lt (qNm _ h))) a),Nat.gcd_comm x y,Nat.gcd_rec y x,Nat.gcd_comm y (x%y)]
theorem c146(x y:Int)(b:fQ x 900000)(a:fQ y 900000):run tab X 146 [.p (eI x),.p (eI y)] []=some ([.p (eI (Int.gcd x y:Nat))],[]):=
 run_of (hX _ rfl) (by rw[sU x,sU y,Zj];exact l146 X hX _ _ b a)
theorem RG(x y:Int)(d:fQ x 900000)(h:fQ y 900000)(j:y≠0)(hd:y ∣ x):run tab X 149 [.p (eI x),.p (eI y)] []=some ([.p (eI (x / y)),.p (eI 0)],[]):=
 run_of (hX _ rfl) (by
  have b:0<y.natAbs:=by omega
  have l:(if(!(decide (x<0)==decide (y<0)))then -((x.natAbs / y.natAbs:Nat):Int)else((x.natAbs / y.natAbs:Nat):Int))=x / y:=by
   obtain⟨k,rfl⟩:=hd;rw[Int.mul_ediv_cancel_left _ j,Int.natAbs_mul,Nat.mul_div_cancel_left _ b];rcases Int.lt_trichotomy k 0 with c | c | c
   . rcases Int.lt_trichotomy y 0 with a | a | a
     . have:=Int.mul_pos_of_neg_of_neg a c;grind
     . grind
     . have:=Int.mul_neg_of_pos_of_neg a c;grind
   . omega
   . rcases Int.lt_trichotomy y 0 with a | a | a
     . have:=Int.mul_neg_of_neg_of_pos a c;grind
     . grind
     . have:=Int.mul_pos a c;grind
  have e:fQ (x / y) 900000:=by obtain⟨k,rfl⟩:=hd;rw[Int.mul_ediv_cancel_left _ j];refine Nat.le_trans (nD ?_) d;rw[Int.natAbs_mul];exact Nat.le_mul_of_pos_left _ b
  have f:=c127 X hX (x / y) y (bF e (by omega)) (bF h (by omega));have i:=Uo X hX x x (bF d (by omega)) (bF d (by omega));have g:=Un X hX 0;rw[Int.ediv_mul_cancel hd]at f;rw[Int.sub_self]at i;rw[sU y]at f ⊢;rw[sU x,Zm,Wx X hX _ _ b h (Nat.le_trans d (by omega))];simp only[qOb,qLh,freshList_fresh,qLy,List.take_length];rw[c131 X hX,l];simp only[qOb,qLh,pv_p,dF];rw[f];simp only[qOb,qLh,pv_p,dF];rw[<- sU x,i];simp only[qOb,qLh,pv_p,dF];rw[g];rfl)
def eQ(n d:Int):PV:=.agg [.bool (decide (n<0)),.list false kI (nI n.natAbs),.bool (decide (d<0)),.list false kI (nI d.natAbs)]
theorem Js(a b:Int)(c:b<0):a / (-(Int.gcd a b:Int))=ou a b/\b / (-(Int.gcd a b:Int))=nJ a b:=by have hd:((Int.gcd a b:Nat):Int) ∣ a:=Int.gcd_dvd_left ..;rw[ou,nJ,Int.sign_eq_neg_one_of_neg c,Int.ediv_neg,Int.ediv_neg];refine⟨by omega,?_⟩;rw[show(b.natAbs:Int)=-b by omega,Int.neg_ediv_of_dvd (Int.gcd_dvd_right ..)]
theorem Jt(a b:Int)(c:0<b):a / (Int.gcd a b:Int)=ou a b/\b / (Int.gcd a b:Int)=nJ a b:=by rw[ou,nJ,Int.sign_eq_one_of_pos c,show(b.natAbs:Int)=b by omega,Int.one_mul];simp
theorem c93(a b:Int)(m:fQ a 800000)(i:fQ b 800000)(n:b≠0):run tab X 93 [.p (eI a),.p (eI b)] []=some ([.p (eQ (ou a b) (nJ a b))],[]):=
 run_of (hX _ rfl) (by
  have l:0<Int.gcd a b:=Int.gcd_pos_of_ne_zero_right _ n;have c:fQ (Int.gcd a b:Nat) 900000:=by refine Nat.le_trans (nD ?_) (Nat.le_trans i (show 800000<=900000 by omega));rw[Int.natAbs_natCast];exact Nat.le_of_dvd (by omega) (Nat.gcd_dvd_right _ _)
  have e:=bF m (show 800000<=900000 by omega);have d:=bF i (show 800000<=900000 by omega);have f:=c146 X hX a b e d;have g:=Un X hX b;have k:((Int.gcd a b:Nat):Int) ∣ a:=Int.gcd_dvd_left ..;have j:((Int.gcd a b:Nat):Int) ∣ b:=Int.gcd_dvd_right ..;by_cases h:b<0
  . have h4:=RG X hX a (-(Int.gcd a b:Nat)) e (wM c) (by omega) (Int.neg_dvd.2 k);have h5:=RG X hX b (-(Int.gcd a b:Nat)) d (wM c) (by omega) (Int.neg_dvd.2 j);rw[(Js X hX a b h).1]at h4;rw[(Js X hX a b h).2]at h5;rw[sU a]at f h4;rw[sU b]at f g h5;rw[sU a,sU b,e93,f];simp only[qOb,qLh,pv_p,dF];rw[g];simp only[qOb,qLh,pv_p,toInt_int];refine condP (by rw[Int.sign_eq_neg_one_of_neg h];decide) ?_;rw[c148 X hX];simp only[qOb,qLh,pv_p,dF];rw[h4];simp only[qOb,qLh,pv_p,dF];rw[h5];rfl
  . have h4:=RG X hX a (Int.gcd a b:Nat) e c (by omega) k;have h5:=RG X hX b (Int.gcd a b:Nat) d c (by omega) j;rw[(Jt X hX a b (by omega)).1]at h4;rw[(Jt X hX a b (by omega)).2]at h5;rw[sU a]at f h4;rw[sU b]at f g h5;rw[sU a,sU b,e93,f];simp only[qOb,qLh,pv_p,dF];rw[g];simp only[qOb,qLh,pv_p,toInt_int];refine condNP (by rw[Int.sign_eq_one_of_pos (by omega)];decide) ?_;rw[h4];simp only[qOb,qLh,pv_p,dF];rw[h5];rfl)
end
end
section
structure SS (x y:Int) (k:Nat):Prop where
 n:fQ x k
 d:fQ y k
 p:y≠0
section
variable (X:Ext) (hX:Mine X)
include hX
theorem EX{x y:Int}(b:fQ x 300000)(a:fQ y 300000):run tab X 127 [.p (.agg [.bool (decide (x<0)),.list false kI (nI x.natAbs)]),.p (.agg [.bool (decide (y<0)),.list false kI (nI y.natAbs)])] []=some ([.p (eI (x*y))],[]):=
 c127 X hX x y (bF b (by omega)) (bF a (by omega))
theorem c67(a b c d:Int)(h:SS a b 300000)(e:SS c d 300000):run tab X 67 [.p (eQ a b),.p (eQ c d)] []=some ([.p (.int .i64 (a*d-c*b).sign)],[]):=
 run_of (hX _ rfl) (by rw[eQ,eQ,e67,EX X hX h.n e.d];simp only[qOb,qLh,pv_p];rw[EX X hX e.n h.d];simp only[qOb,qLh,pv_p,dF];rw[abk X hX _ _ (bF (gu h.n e.d) (by omega)) (bF (gu e.n h.d) (by omega))];rfl)
theorem c85(a b c d:Int)(h:SS a b 300000)(e:SS c d 300000):run tab X 85 [.p (eQ a b),.p (eQ c d)] []=some ([.p (eQ (ou (a*c) (b*d)) (nJ (a*c) (b*d)))],[]):=
 run_of (hX _ rfl) (by rw[eQ,eQ,e85,EX X hX h.n e.n];simp only[qOb,qLh,pv_p];rw[EX X hX h.d e.d];simp only[qOb,qLh,pv_p,dF];rw[c93 X hX _ _ (bF (gu h.n e.n) (by omega)) (bF (gu h.d e.d) (by omega)) (Int.mul_ne_zero h.p e.p)];rfl)
theorem c86(a b c d:Int)(h:SS a b 300000)(e:SS c d 300000):run tab X 86 [.p (eQ a b),.p (eQ c d)] []=some ([.p (eQ (ou (a*d+c*b) (b*d)) (nJ (a*d+c*b) (b*d)))],[]):=
 run_of (hX _ rfl) (by have g:=gu h.n e.d;have f:=gu e.n h.d;rw[eQ,eQ,e86,EX X hX h.n e.d];simp only[qOb,qLh,pv_p];rw[EX X hX e.n h.d];simp only[qOb,qLh,pv_p,dF];rw[Um X hX _ _ (bF g (by omega)) (bF f (by omega))];simp only[qOb,qLh,pv_p,dF];rw[EX X hX h.d e.d];simp only[qOb,qLh,pv_p,dF];rw[c93 X hX _ _ (bF (zD g f) (by omega)) (bF (gu h.d e.d) (by omega)) (Int.mul_ne_zero h.p e.p)];rfl)
theorem c145(a b c d:Int)(h:SS a b 300000)(e:SS c d 300000):run tab X 145 [.p (eQ a b),.p (eQ c d)] []=some ([.p (eQ (ou (a*d-c*b) (b*d)) (nJ (a*d-c*b) (b*d)))],[]):=
 run_of (hX _ rfl) (by have g:=gu h.n e.d;have f:=gu e.n h.d;rw[eQ,eQ,Zi,EX X hX h.n e.d];simp only[qOb,qLh,pv_p];rw[EX X hX e.n h.d];simp only[qOb,qLh,pv_p,dF];rw[Uo X hX _ _ (bF g (by omega)) (bF f (by omega))];simp only[qOb,qLh,pv_p,dF];rw[EX X hX h.d e.d];simp only[qOb,qLh,pv_p,dF];rw[c93 X hX _ _ (bF (show fQ (a*d-c*b) 600001 by rw[Int.sub_eq_add_neg];exact zD g (wM f)) (by omega)) (bF (gu h.d e.d) (by omega)) (Int.mul_ne_zero h.p e.p)];rfl)
end
end
end Go.Skm.Fen
