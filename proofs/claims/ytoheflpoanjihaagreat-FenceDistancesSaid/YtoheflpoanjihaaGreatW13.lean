import Derived.Test.YtoheflpoanjihaaGreatW8
set_option linter.all false
namespace Go.Skm.Fen
open Go Go.Skm Go.Skm.Dig
section
theorem JC(R:List Nat)(j m i:Nat)(h:i<m):((R.drop j).take m).getD i 0=R.getD (j+i) 0:=by grind
theorem Qw{R:List Nat}(a:ok aX R)(j m:Nat):ok aX ((R.drop j).take m):=xI (MW a j) m
theorem last_pos{N:List Nat}(a:Dig.tight N)(h:N≠[]):0<N.getD (N.length-1) 0:=by
 have c:0<N.length:=List.length_pos_iff.2 h;have b:N.getLast?=some (N.getD (N.length-1) 0):=by grind
 exact Nat.pos_of_ne_zero (a _ b)
section
variable (X:Ext) (hX:Mine X) (hB:Bits X)
include hX hB
theorem EK(g:Nat)(a:g<aX):(run tab X) 113 [.slice 100000 1 0 1] [.arr false kU [.int .u64 (g:Int)]]=some ([.slice 100000 1 0 (trim (([g].drop 0).take 1)).length],[.arr false kU (aY .u64 [g])]):=by have _:=hB;have _:=a;exact H9 X hX [g] (by simp) 0 1 (by simp)
theorem MX(D:List Nat)(f:ok aX D)(e:D.length<=10000000)(g:Nat)(c:g<aX):((run tab X) 113 [.slice 100000 1 0 1] [.arr false kU [.int .u64 (g:Int)]]).bind (λa=>(run tab X) 173 [.p (.list false kU (aY .u64 D)),.p (.list false kU ((((a.2.headD (.box [])).xs).drop ((a.1.headD .undef).sOff)).take ((a.1.headD .undef).sLen)))] [])=some ([.fresh false kU (aY .u64 (aW aX (val aX D*g)))],[]):=by
 rw[EK X hX hB g c];simp only[qOb,qLh,xs_arr,sOff_slice,sLen_slice];have b:ok aX [g]:=λd hd=>by rw[List.mem_singleton.1 hd];exact c
 rw[trimmed [g] b,show([g].drop 0).take 1=[g] from rfl,val_one,c173 X hX hB _ _ f (uJ _) ?_,dval];have:(aW aX g).length<=1:=gG (by simpa using c);omega
theorem abJ(s:Nat)(U:s<64)(D:List Nat)(n k V:Nat)(hn:n<=90000)(v:ok aX D)(F:Dig.tight D)(b:D.length=k)(Z:0<k)(Y:k<=n):∀(c:Nat) (R e:List Nat),c+e.length=n+1-k->R.length=n+1->ok aX R->ok aX e ->
    V=val aX R+aX^c*(val aX e*val aX D)->val aX R<aX^c*val aX D ->
    L tab (run tab X) 186 [] [.lp [1,1,1,1,1,1,1,1,0,1,0]] (jl s 0 k 0 (n+1) k 0 (n+1-k) ((c:Int)-1) (aY .u64 D) (aY .u64 R) (aY .u64 (List.replicate c 0++e)))=some ([.fresh false kU (aY .u64 (aW aX (V / val aX D))),.p (.list false kU (aY .u64 (aW aX (V%val aX D / 2^s))))],[]):=by
  have m:D≠[]:=by intro h;rw[h]at b;simp at b;omega
  have B:0<D.getD (k-1) 0:=by rw[<- b];exact last_pos F m
  have x:0<val aX D:=Ci b64 F m;have o:val aX D<=aX^k:=by rw[<- b];exact Nat.le_of_lt (jQ v)
  have C:D.getD (k-1) 0<aX:=dZ v (by decide) _;intro c;induction c with
  | zero =>
   intro R e W a f E u d;refine L_of ?_;rw[tZ];refine condNP (by simp) ?_;rw[Nat.pow_zero,Nat.one_mul]at d u;have e1:V / val aX D=val aX e:=by rw[u,Nat.add_comm,Nat.mul_comm,Nat.mul_add_div x,Nat.div_eq_of_lt d,Nat.add_zero]
   have e2:V%val aX D=val aX R:=by rw[u,Nat.add_comm,Nat.mul_comm,Nat.mul_add_mod,Nat.mod_eq_of_lt d]
   rw[e1,e2,List.replicate_zero,List.nil_append,H9 X hX e (by omega) 0 _ (by omega)];simp only[qOb,qLh,xs_arr,sOff_slice,sLen_slice];rw[H9 X hX R (by omega) 0 _ (by omega)];simp only[qOb,qLh,xs_arr,sOff_slice,sLen_slice];have hRl:(aW aX (val aX R)).length<=n+1:=gG (by rw[<- a];exact jQ f);rw[trimmed e E,trimmed R f,qLy,qLy,<- a,List.take_length,show R.length-k=e.length by omega,List.take_length,ab3 X hX hB _ s U (uJ _) (by omega),dval];simp
  | succ j T =>
   intro R e W a f E u d;have i:j+k<=n:=by omega
   obtain⟨w1,y⟩:=KZ (show 0<aX by decide) a i d o;have t:((R.drop j).take (k+1)).length=k+1:=by simp;omega
   obtain⟨J,g⟩:=Oy (show 0<aX by decide) (Qw f j (k+1)) t b Z B y;rw[JC R j (k+1) k (by omega),JC R j (k+1) (k-1) (by omega)]at J g;have z:val aX ((R.drop j).take (k+1))<aX^(k+1):=by have:=jQ (Qw f j (k+1));rwa[t]at this
   have l:val aX ((R.drop j).take (k+1))-val aX D*(val aX ((R.drop j).take (k+1)) / val aX D)<aX^(k+1):=Nat.lt_of_le_of_lt (Nat.sub_le _ _) z;obtain⟨O,N⟩:=Na (L:=aW aX (val aX ((R.drop j).take (k+1))-val aX D*(val aX ((R.drop j).take (k+1)) / val aX D))) (show 0<aX by decide) f a i d o x (gG l) rfl (dval _)
   have K:=T (vO R j k (aW aX (val aX ((R.drop j).take (k+1))-val aX D*(val aX ((R.drop j).take (k+1)) / val aX D)))) ((val aX ((R.drop j).take (k+1)) / val aX D)::e) (by simp;omega) (Gi a i (gG l)) (Oz (by decide) f (uJ _))
    (nM.2 ⟨by rw[Nat.div_lt_iff_lt_mul x];exact y,E⟩) (by rw[u,O];show _=_+aX^j*((_+aX*val aX e)*val aX D);grind) N
   have inner:=Yu X hX hB s D R (List.replicate (j+1) 0++e) n j k (n+1-k) (by omega) v F b x f a i (by omega) (by simp;omega) y _ (by rw[set_last];exact K) _ J g;refine L_of ?_;rw[show((j+1:Nat):Int)-1=(j:Int) by omega,tZ];refine condP (by omega) ?_;have a1:IntKind.i64.wrap ((j:Int)+(k:Int))=((j+k:Nat):Int):=by rw[wrap_eq (by omega) (by omega)];omega
   have a2:IntKind.i64.wrap ((k:Int)-1)=((k-1:Nat):Int):=by rw[wrap_eq (by omega) (by omega)];omega
   have a3:IntKind.i64.wrap (((j+k:Nat):Int)-1)=((j+(k-1):Nat):Int):=by rw[wrap_eq (by omega) (by omega)];omega
   have a4:IntKind.i64.wrap (((j+k:Nat):Int)+1)=((j+k+1:Nat):Int):=by rw[wrap_eq (by omega) (by omega)];omega
   have S:(leI (0:Int) ((j+k:Nat):Int)&&ltI ((j+k:Nat):Int) ((n+1:Nat):Int))=true:=by simp;omega
   have Q:(leI (0:Int) ((k-1:Nat):Int)&&ltI ((k-1:Nat):Int) (k:Int))=true:=by simp;omega
   have P:(leI (0:Int) ((j+(k-1):Nat):Int)&&ltI ((j+(k-1):Nat):Int) ((n+1:Nat):Int))=true:=by simp;omega
   have H:(leI (0:Int) (j:Int)&&(leI (j:Int) ((j+k+1:Nat):Int)&&(leI ((j+k+1:Nat):Int) ((n+1:Nat):Int)&&leI ((n+1:Nat):Int) ((n+1:Nat):Int))))=true:=by simp;omega
   have G:((j+k+1:Nat):Int)-(j:Int)=((k+1:Nat):Int):=by omega
   have M:((aY .u64 D).drop 0).take k=aY .u64 D:=by rw[<- b];exact whole D
   simp only[a1,a2,a3,a4];rw[S,Q,qCt,qCt];simp only[qIt,dD,qNz];have A:R.getD (j+(k-1)) 0<aX:=dZ f (by decide) _;have YS:R.getD (j+k) 0<aX:=dZ f (by decide) _;by_cases I:((R.getD (j+k) 0:Nat):Int)<((D.getD (k-1) 0:Nat):Int)
   . refine condP I ?_;have r:R.getD (j+k) 0<D.getD (k-1) 0:=by omega
     have q:(R.getD (j+k) 0*aX+R.getD (j+(k-1)) 0) / D.getD (k-1) 0=guess aX (R.getD (j+k) 0) (R.getD (j+(k-1)) 0) (D.getD (k-1) 0):=by rw[guess,if_pos r]
     rw[qCt,P,qCt,qCt,hB.w.div _ _ _ r A C,q];revert inner g;generalize guess aX (R.getD (j+k) 0) (R.getD (j+(k-1)) 0) (D.getD (k-1) 0)=gg;intro g inner;simp only[qOb,qLh,pv_p,toInt_int,H,qCt,M,G,qIt];have hp:=MX X hX hB D v (by omega) _ g;rw[EK X hX hB _ g]at hp ⊢;simp only[qOb,qLh,xs_arr,sOff_slice,sLen_slice]at hp ⊢;rw[hp];simp only[qOb,qLh,freshList_fresh,bG];exact inner
   . refine condNP I ?_;have r:¬ R.getD (j+k) 0<D.getD (k-1) 0:=by omega
     have q:(18446744073709551615:Int)=((guess aX (R.getD (j+k) 0) (R.getD (j+(k-1)) 0) (D.getD (k-1) 0):Nat):Int):=by grind[guess]
     rw[q];revert inner g;generalize guess aX (R.getD (j+k) 0) (R.getD (j+(k-1)) 0) (D.getD (k-1) 0)=gg;intro g inner;simp only[H,qCt,M,G,qIt];have hp:=MX X hX hB D v (by omega) _ g;rw[EK X hX hB _ g]at hp ⊢;simp only[qOb,qLh,xs_arr,sOff_slice,sLen_slice]at hp ⊢;rw[hp];simp only[qOb,qLh,freshList_fresh,bG];exact inner
end
end
section
variable {k n y:Nat}
abbrev nU(n:Nat):List PV:=aY .u64 (aW aX n)
theorem vG(h:(aW aX n).length<=k):n<aX^k:=Nat.lt_of_lt_of_le (nN b64) (Nat.pow_le_pow_right (by decide) h)
theorem pI{a b:Nat}(h:a<=b):(aW aX a).length<=(aW aX b).length:=gG (Nat.lt_of_le_of_lt h (nN b64))
theorem wS(h:0<n):0<(aW aX n).length:=by
 rcases Nat.eq_zero_or_pos (aW aX n).length with a | a
 . have:=(jO b64).1 (List.length_eq_zero_iff.1 a);omega
 . exact a
theorem Jy(h:(aW aX y).length=1):(aW aX y).getD 0 0=y:=by have b:=dval y;revert h b;generalize aW aX y=l;intro h b;obtain⟨a,rfl⟩:=List.length_eq_one_iff.1 h;grind[val_one]
theorem Qk{s:Nat}(w:0<y)(i:(aW aX y).length=k)(g:s=64-bl ((aW aX y).getD (k-1) 0)) :
    s<64/\(aW aX (y*2^s)).length=k/\aX^(k-1)*2^63<=y*2^s/\y*2^s<aX^k:=by
  have o:0<k:=by rw[<- i];exact wS w
  have l:aW aX y≠[]:=by intro h;rw[h]at i;simp at i;omega
  have a:0<(aW aX y).getD (k-1) 0:=by rw[<- i];exact last_pos (wU y) l
  have x:(aW aX y).getD (k-1) 0<aX:=dZ (uJ y) (by decide) _;have f:=xM aX (aW aX y) (k-1) (by omega);rw[List.drop_eq_nil_of_le (show(aW aX y).length<=k-1+1 by omega),show val aX []=0 from rfl,Nat.mul_zero,Nat.add_zero,dval]at f;have c:=jQ (xI (uJ y) (k-1));rw[List.length_take,Nat.min_eq_left (by omega)]at c;have b1:=x9 ((aW aX y).getD (k-1) 0);have r:=MP a;have v:=Ia a;have u:=Jz x;revert g f b1 r v u;generalize (aW aX y).getD (k-1) 0=t;generalize bl t=b;intro g f b1 r v u;have j:s<64:=by omega
  have q:2^(b-1)*2^s=2^63:=by rw[<- Nat.pow_add,g,show b-1+(64-b)=63 by omega]
  have p:2^b*2^s=aX:=by rw[<- Nat.pow_add,g,show b+(64-b)=64 by omega]
  have m:aX^(k-1)*2^63<=y*2^s:=by rw[<- q,<- Nat.mul_assoc];refine Nat.mul_le_mul_right _ ?_;rw[f];exact Nat.le_trans (Nat.mul_le_mul_left _ r) (Nat.le_add_left _ _)
  have d:y*2^s<aX^k:=by
   have e:aX^k=aX^(k-1)*2^b*2^s:=by rw[Nat.mul_assoc,p,<- Nat.pow_succ,Nat.succ_eq_add_one,Nat.sub_add_cancel o]
   rw[e];refine Nat.mul_lt_mul_of_pos_right ?_ (Nat.pow_pos (by decide));have:=Nat.mul_le_mul_left (aX^(k-1)) b1;grind
  refine⟨j,Nat.le_antisymm (gG d) ?_,m,d⟩;rcases Nat.lt_or_ge (aW aX (y*2^s)).length k with h | h
  . exfalso;have z:y*2^s<aX^(k-1):=vG (by omega);omega
  . exact h
theorem KR(L:List Nat)(n:Nat)(h:L.length<=n):patch (aY .u64 (List.replicate n 0)) 0 ((((aY .u64 L).drop 0).take (aY .u64 L).length).take (Nat.min (aY .u64 L).length n))=aY .u64 (L++List.replicate (n-L.length) 0):=by rw[qLy,List.take_length,bG,List.take_of_length_le (by rw[bG];exact Nat.le_min.2 ⟨qNr _,h⟩),yJ,List.take_zero,List.nil_append,qNz,List.drop_replicate]
section
variable (X:Ext) (hX:Mine X) (hB:Bits X)
include hX hB
theorem Yg(x y:Nat)(j:0<y)(J:(aW aX x).length<=90000)(B:(aW aX y).length<=90000):run tab X 186 [.p (.list false kU (nU x)),.p (.list false kU (nU y))] []=some ([.fresh false kU (nU (x / y)),.p (.list false kU (nU (x%y)))],[]):=
 run_of (hX _ rfl) (by
  have c:0<(aW aX y).length:=wS j;have I:(aW aX y).getD ((aW aX y).length-1) 0<aX:=dZ (uJ y) (by decide) _;rw[ZC,c156 X hX _ _ (uJ x) (uJ y) (by omega) (by omega)];simp only[qOb,qLh,pv_p,toInt_int,bG];by_cases b:x<y
  . refine condP (by rw[rU];exact b) ?_;rw[Nat.div_eq_of_lt b,Nat.mod_eq_of_lt b,show nU 0=[] by rw[nU,bZ];rfl]
  . refine condNP (by rw[rU];exact b) ?_;by_cases v:(aW aX y).length=1
    . rw[v];refine condP (by omega) ?_;have t:=Jy v;have g:y<aX:=by rw[<- t];exact dZ (uJ y) (by decide) 0
      rw[show ltI 0 ((1:Nat):Int)=true from rfl,qCt,dD,t,abI X hX hB _ y (uJ x) j g (by omega),dval];simp only[qOb,qLh,List.tail_cons,pv_p,toInt_int,freshList_fresh];have u:x%y<aX:=Nat.lt_trans (qNm _ j) g;rw[EK X hX hB _ u];simp only[qOb,qLh,xs_arr,sOff_slice,sLen_slice];rw[trimmed [x%y] (λd hd=>by rw[List.mem_singleton.1 hd];exact u),qLy,List.take_length,show([x%y].drop 0).take 1=[x%y] from rfl,val_one]
    . refine condNP (by omega) ?_;obtain⟨f,s2,l,r⟩:=Qk j rfl rfl;have e:(aW aX y).length<=(aW aX x).length:=pI (Nat.le_of_not_lt b);have o:aW aX x≠[]:=by intro h;rw[h]at e;exact absurd (Nat.lt_of_lt_of_le c e) (Nat.lt_irrefl _)
      have m:aW aX y≠[]:=by intro h;rw[h]at c;simp at c
      have H:IntKind.i64.wrap (((aW aX y).length:Int)-1)=(((aW aX y).length-1:Nat):Int):=by rw[wrap_eq (by omega) (by omega)];omega
      have G:IntKind.i64.wrap (((aW aX x).length:Int)+1)=(((aW aX x).length+1:Nat):Int):=by rw[wrap_eq (by omega) (by omega)];omega
      have F:IntKind.i64.wrap ((((aW aX x).length+1:Nat):Int)-((aW aX y).length:Int))=(((aW aX x).length+1-(aW aX y).length:Nat):Int):=by rw[wrap_eq (by omega) (by omega)];omega
      have E:IntKind.i64.wrap ((((aW aX x).length+1-(aW aX y).length:Nat):Int)-1)=(((aW aX x).length+1-(aW aX y).length:Nat):Int)-1:=wrap_eq (by omega) (by omega);have A:(leI (0:Int) (((aW aX y).length-1:Nat):Int)&&ltI (((aW aX y).length-1:Nat):Int) (((aW aX y).length:Nat):Int))=true:=by simp;omega
      have z:(leI (0:Int) (((aW aX x).length+1:Nat):Int)&&(leI (((aW aX x).length+1:Nat):Int) (((aW aX x).length+1:Nat):Int)&&leI (((aW aX x).length+1:Nat):Int) (2147483648:Int)))=true:=by simp;omega
      have w:(leI (0:Int) (((aW aX x).length+1-(aW aX y).length:Nat):Int)&&(leI (((aW aX x).length+1-(aW aX y).length:Nat):Int) (((aW aX x).length+1-(aW aX y).length:Nat):Int)&&leI (((aW aX x).length+1-(aW aX y).length:Nat):Int) (2147483648:Int)))=true:=by simp;omega
      rw[H,G,A,qCt];simp only[qIt,dD];rw[Ut X hX _ I];simp only[qOb,qLh,pv_p,toInt_int];revert f s2 l r;generalize 64-bl ((aW aX y).getD ((aW aX y).length-1) 0)=s;intro f s2 l r;rw[Yh X hX hB _ s f (uJ y) m (by omega),dval];simp only[qOb,qLh,freshList_fresh,bG];rw[z,qCt,Yh X hX hB _ s f (uJ x) o (by omega),dval];simp only[qOb,qLh,freshList_fresh];have q:(aW aX (x*2^s)).length<=(aW aX x).length+1:=by refine gG ?_;rw[Nat.pow_succ];exact Nat.mul_lt_mul'' (nN b64) (Nat.pow_lt_pow_right (a:=2) (by decide) f)
      rw[s2,F,w,qCt,qIt,E,gK,gK,KR _ _ q];have i:x*2^s<aX^((aW aX x).length+1-(aW aX y).length)*(y*2^s):=by
       have D:x*2^s<aX^(aW aX x).length*2^63:=by refine Nat.lt_of_lt_of_le (Nat.mul_lt_mul_of_pos_right (nN b64 (n:=x)) (Nat.pow_pos (by decide))) (Nat.mul_le_mul_left _ (Nat.pow_le_pow_right (by decide) (by omega)))
       refine Nat.lt_of_lt_of_le D ?_;have C:aX^(aW aX x).length=aX^((aW aX x).length+1-(aW aX y).length)*aX^((aW aX y).length-1):=by rw[<- Nat.pow_add,show(aW aX x).length+1-(aW aX y).length+((aW aX y).length-1)=(aW aX x).length by omega]
       rw[C,Nat.mul_assoc];exact Nat.mul_le_mul_left _ l
      have:=abJ X hX hB s f (aW aX (y*2^s)) (aW aX x).length (aW aX y).length (x*2^s) (by omega) (uJ _) (wU _) s2 c e
       ((aW aX x).length+1-(aW aX y).length) (aW aX (x*2^s)++List.replicate ((aW aX x).length+1-(aW aX (x*2^s)).length) 0) [] (by simp) (by simp;omega)
       (gI.2 ⟨uJ _,zS (by decide) _⟩) (nK _) (by rw[Gh,dval];simp[val]) (by rw[Gh,dval,dval];exact i)
      rw[List.append_nil,dval,Nat.mul_div_mul_right _ _ (Nat.pow_pos (by decide)),Nat.mul_mod_mul_right,Nat.mul_div_cancel _ (Nat.pow_pos (by decide))]at this;exact this)
end
end
section
abbrev Nb:=Bool × Nat
def eN(x:Nb):PV:=.agg [.bool x.1,.list false kU (nU x.2)]
def Nb.z(x:Nb):Int:=if x.1 then -(x.2:Int)else x.2
def Oi(x y:Nb):Nb:=if x.1=y.1 then(x.1,x.2+y.2)else if y.2<=x.2 then(x.1,x.2-y.2)else(y.1,y.2-x.2)
def wV(x y:Nb):Nb:=(!(x.1==y.1),x.2*y.2)
def KT(x:Nb):Nb:=(!x.1,x.2)
def YT(x:Nb):Int:=if x.2=0 then 0 else if x.1 then -1 else 1
def Nb.le(x:Nb)(k:Nat):Prop:=(aW aX x.2).length<=k
theorem EL(x y:Nb):(Oi x y).z=x.z+y.z:=by obtain⟨a,m⟩:=x;obtain⟨b,n⟩:=y;unfold Oi Nb.z;cases a<;>cases b<;>simp<;>first | omega |(split<;>simp<;>omega)
theorem yK(x y:Nb):(wV x y).z=x.z*y.z:=by obtain⟨a,m⟩:=x;obtain⟨b,n⟩:=y;unfold wV Nb.z;cases a<;>cases b<;>simp[Int.neg_mul,Int.mul_neg]
theorem KU(x:Nb):(KT x).z=-x.z:=by obtain⟨a,m⟩:=x;unfold KT Nb.z;cases a<;>simp
theorem Ql(x:Nb):YT x=x.z.sign:=by
 obtain⟨a,m⟩:=x;unfold YT Nb.z;rcases Nat.eq_zero_or_pos m with h | h
 . subst h;cases a<;>rfl
 . simp only[show m≠0 by omega,if_false];cases a
   . simp;exact(Int.sign_eq_one_of_pos (by omega)).symm
   . simp;exact(Int.sign_eq_one_of_pos (show 0<(m:Int) by omega)).symm
theorem Ib{x y:Nb}{k:Nat}(b:x.le k)(a:y.le k):(Oi x y).le (k+1):=by
 have e:x.2<aX^k:=vG b;have d:y.2<aX^k:=vG a;have c:aX^(k+1)=aX^k*aX:=Nat.pow_succ ..;have h4:aX^k*2<=aX^k*aX:=Nat.mul_le_mul_left _ (by decide);refine gG ?_;unfold Oi;split
 . show x.2+y.2<_;omega
 . split
   . show x.2-y.2<_;omega
   . show y.2-x.2<_;omega
theorem sW{x y:Nb}{k l:Nat}(b:x.le k)(a:y.le l):(wV x y).le (k+l):=by refine gG ?_;rw[Nat.pow_add];exact Nat.mul_lt_mul'' (vG b) (vG a)
section
variable (X:Ext) (hX:Mine X) (hB:Bits X)
include hX
theorem Uu(x:Nb):run tab X 118 [.p (eN x)] []=some ([.p (eN (KT x))],[]):=run_of (hX _ rfl) (by rw[eN,e118];rfl)
theorem c119(x:Nb):run tab X 119 [.p (eN x)] []=some ([.p (.int .i64 (YT x))],[]):=
 run_of (hX _ rfl) (by
  rw[eN,e119,YT];simp only[bG];by_cases h:x.2=0
  . rw[if_pos h,h,bZ];rfl
  . rw[if_neg h];have:=wS (Nat.pos_of_ne_zero h);rw[show(((aW aX x.2).length:Int)==0)=false by simp;intro a;rw[a]at this;simp at this,qCf];cases x.1<;>rfl)
theorem c117(x y:Nb)(e:x.le 1000000)(c:y.le 1000000):run tab X 117 [.p (eN x),.p (eN y)] []=some ([.p (eN (Oi x y))],[]):=
 run_of (hX _ rfl) (by
  have d:(aW aX x.2).length<=1000000:=e;have b:(aW aX y.2).length<=1000000:=c;rw[eN,eN,e117,Oi];by_cases h:x.1=y.1
  . rw[if_pos h,show(x.1==y.1)=true by simp[h],qCt,abK X hX _ _ (uJ _) (uJ _) (by omega) (by omega),dval,dval];simp only[qOb,qLh,freshList_fresh,qLy,List.take_length];rfl
  . rw[if_neg h,show(x.1==y.1)=false by simp[h],qCf,c156 X hX _ _ (uJ _) (uJ _) (by omega) (by omega)];simp only[qOb,qLh,pv_p,toInt_int];by_cases a:y.2<=x.2
    . rw[if_pos a];refine condP (Int.not_lt.1 λf=>absurd ((rU x.2 y.2).1 f) (by omega)) ?_;rw[c157 X hX _ _ (uJ _) (uJ _) (by omega) (pI a) (by rw[dval,dval];exact a),dval,dval];simp only[qOb,qLh,freshList_fresh,qLy,List.take_length];rfl
    . rw[if_neg a];refine condNP (by have:=(rU x.2 y.2).2 (by omega);omega) ?_;rw[c157 X hX _ _ (uJ _) (uJ _) (by omega) (pI (by omega)) (by rw[dval,dval];omega),dval,dval];simp only[qOb,qLh,freshList_fresh,qLy,List.take_length];rfl)
theorem c141(hB:Words X)(x y:Nb)(d:x.le 1000000)(b:y.le 1000000):run tab X 141 [.p (eN x),.p (eN y)] []=some ([.p (eN (wV x y))],[]):=
 run_of (hX _ rfl) (by have c:(aW aX x.2).length<=1000000:=d;have a:(aW aX y.2).length<=1000000:=b;rw[eN,eN,Zg,c173 X hX hB _ _ (uJ _) (uJ _) (by omega),dval,dval];simp only[qOb,qLh,freshList_fresh,qLy,List.take_length];rfl)
include hB
theorem abL:∀(y x:Nat),(aW aX x).length<=90000->(aW aX y).length<=90000->L tab (run tab X) 171 [] [.lp [1,0,0]] (yY (nU x) (nU y))=some ([.p (.list false kU (nU (Nat.gcd x y)))],[]):=by
 intro y;induction y using Nat.strongRecOn with
 | ind y b =>
  intro x c a;refine L_of ?_;rw[OQ];simp only[bG];rcases Nat.eq_zero_or_pos y with h | h
  . subst h;refine condNP (by rw[bZ];simp) ?_;rw[Nat.gcd_zero_right]
  . have d:=wS h;refine condP (by omega) ?_;rw[Yg X hX hB x y h c a];simp only[qOb,qLh,List.tail_cons,pv_p,toList_list];rw[b (x%y) (qNm _ h) y a (Nat.le_trans (pI (Nat.le_of_lt (qNm _ h))) a),Nat.gcd_comm x y,Nat.gcd_rec y x,Nat.gcd_comm y (x%y)]
theorem c171(x y:Nat)(b:(aW aX x).length<=90000)(a:(aW aX y).length<=90000):run tab X 171 [.p (.list false kU (nU x)),.p (.list false kU (nU y))] []=some ([.p (.list false kU (nU (Nat.gcd x y)))],[]):=
 run_of (hX _ rfl) (by rw[Zu];exact abL X hX hB y x b a)
theorem Yj(x y:Nb)(c:x.le 90000)(b:y.le 90000)(hp:0<y.2)(hd:y.2 ∣ x.2):run tab X 172 [.p (eN x),.p (eN y)] []=some ([.p (eN (!(x.1==y.1),x.2 / y.2)),.p (eN (false,0))],[]):=
 run_of (hX _ rfl) (by
  rw[eN,eN,Zv,Yg X hX hB x.2 y.2 hp c b,Nat.mod_eq_zero_of_dvd hd];have a:nU 0=[]:=by rw[nU,bZ];rfl
  rw[a];simp only[qOb,qLh,List.tail_cons,pv_p,toList_list,freshList_fresh,qLy,List.take_length];have e:some ([AV.p (PV.agg [PV.bool (!(x.1==y.1)),PV.list false kU (nU (x.2 / y.2))]),AV.p (PV.agg [PV.bool false,PV.list false kU []])],([]:List Blk))=some ([.p (eN (!(x.1==y.1),x.2 / y.2)),.p (eN (false,0))],[]):=by rw[eN,eN,a]
  revert e;generalize (!(x.1==y.1))=g;intro e;cases x.1 with
  | true=>rw[qCt];exact condNP (by decide) e
  | false=>exact e)
end
end
end Go.Skm.Fen
namespace Go.Skm.Dig
theorem CZ{b:Nat}:∀{l:List Nat},ok b l->∀ i,l.getD i 0=val b l / b^i%b
 |[],_,i=>by simp[val]
 | d::r,h,0=>by have hd:=h d List.mem_cons_self;show d=(d+b*val b r) / b^0%b;rw[Nat.pow_zero,Nat.div_one,Nat.add_mul_mod_self_left,Nat.mod_eq_of_lt hd]
 | d::r,h,i+1=>by have hd:=h d List.mem_cons_self;have a:=CZ (λx c=>h x (List.mem_cons_of_mem _ c):ok b r) i;show r.getD i 0=(d+b*val b r) / b^(i+1)%b;rw[a,Nat.pow_succ',<- Nat.div_div_eq_div_mul,Nat.add_comm,Nat.mul_add_div (by omega),Nat.div_eq_of_lt hd,Nat.add_zero]
theorem zX{b:Nat}(a:2<=b)(n i:Nat):(aW b n).getD i 0=n / b^i%b:=by rw[CZ (qI a n),kD a]
theorem OB(l:List Nat)(i:Nat)(h:i<l.length):l.reverse.getD i 0=l.getD (l.length-1-i) 0:=by rw[List.getD_eq_getElem?_getD,List.getD_eq_getElem?_getD,List.getElem?_reverse h]
theorem Nc(n:Nat):(aW 256 n).length=((aW 2 n).length+7) / 8:=by
 rcases Nat.eq_zero_or_pos n with h | h
 . subst h;rw[bZ,bZ];rfl
 . have g:=nN (b:=2) (by decide) (n:=n);have f:=yM (b:=2) (by decide) h;have b1:=nN (b:=256) (by decide) (n:=n);have d:=yM (b:=256) (by decide) h;have e:∀ k,256^k=2^(8*k):=λk=>by rw[Nat.pow_mul]
   have j:0<(aW 2 n).length:=List.length_pos_iff.2 λc=>by have:=(jO (b:=2) (by decide)).1 c;omega
   have i:0<(aW 256 n).length:=List.length_pos_iff.2 λc=>by have:=(jO (b:=256) (by decide)).1 c;omega
   rw[e]at b1 d;have l:(aW 2 n).length-1<8*(aW 256 n).length:=(Nat.pow_lt_pow_iff_right (a:=2) (by decide)).1 (Nat.lt_of_le_of_lt f b1);have c:8*((aW 256 n).length-1)<(aW 2 n).length:=(Nat.pow_lt_pow_iff_right (a:=2) (by decide)).1 (Nat.lt_of_le_of_lt d g);omega
theorem Nh(n k:Nat):n / 18446744073709551616^(k / 8)%18446744073709551616 / 2^(k%8*8)%256=n / 256^k%256:=by
 have e:(18446744073709551616:Nat)^(k / 8)=256^(8*(k / 8)):=by rw[Nat.pow_mul]
 have d:2^(k%8*8)=256^(k%8):=by rw[Nat.mul_comm,Nat.pow_mul]
 have c:(18446744073709551616:Nat)=256^(k%8)*256^(8-k%8):=by rw[<- Nat.pow_add,show k%8+(8-k%8)=8 by omega]
 have b:256^(8-k%8)=256*256^(7-k%8):=by rw[<- Nat.pow_succ',show(7-k%8).succ=8-k%8 by omega]
 rw[e,d];generalize a:n / 256^(8*(k / 8))=N;rw[c,Nat.mod_mul_right_div_self,b,Nat.mod_mul_right_mod,<- a,Nat.div_div_eq_div_mul,<- Nat.pow_add,show 8*(k / 8)+k%8=k by omega]
theorem OC(n k:Nat):256^k*(n / 256^k)=256^(k+1)*(n / 256^(k+1))+256^k*(n / 256^k%256):=by
 have h:=Nat.div_add_mod (n / 256^k) 256;rw[Nat.div_div_eq_div_mul,<- Nat.pow_succ]at h;have a:256^k*(256*(n / 256^(k+1))+n / 256^k%256)=256^k*(n / 256^k):=by rw[h]
 rw[<- a,Nat.mul_add,<- Nat.mul_assoc,<- Nat.pow_succ]
theorem OD{l:List Nat}{n k:Nat}(h:ok 18446744073709551616 l)(a:val 18446744073709551616 l=256^(k+1)*n):l.getD (k / 8) 0%2^(k%8*8+8)=0:=by
 have e:(18446744073709551616:Nat)^(k / 8)=256^(8*(k / 8)):=by rw[Nat.pow_mul]
 have d:2^(k%8*8+8)=256^(k%8+1):=by rw[show k%8*8+8=8*(k%8+1) by omega,Nat.pow_mul]
 have c:(18446744073709551616:Nat)=256^(k%8+1)*256^(7-k%8):=by rw[<- Nat.pow_add,show k%8+1+(7-k%8)=8 by omega]
 have b:256^(k+1)=256^(8*(k / 8))*256^(k%8+1):=by rw[<- Nat.pow_add,show 8*(k / 8)+(k%8+1)=k+1 by omega]
 rw[CZ h,a,e,b,Nat.mul_assoc,Nat.mul_div_cancel_left _ (Nat.pow_pos (by decide)),d];rw[c,Nat.mod_mul_right_mod,Nat.mul_mod_right]
end Go.Skm.Dig
namespace Go.Skm.Fen
open Go Go.Skm Go.Skm.Dig
section
def BZ(n:Nat):List Nat:=(aW 256 n).reverse
def jD(n:Nat):ByteArray:=⟨((BZ n).map UInt8.ofNat).toArray⟩
theorem Ic(n:Nat):(BZ n).length=(aW 256 n).length:=by rw[BZ,List.length_reverse]
theorem rP(n:Nat):(jD n).size=(aW 256 n).length:=by show((BZ n).map UInt8.ofNat).toArray.size=_;rw[List.size_toArray,qLm,Ic]
theorem JA(n i:Nat)(h:i<(aW 256 n).length):(BZ n).getD i 0=n / 256^((aW 256 n).length-1-i)%256:=by rw[BZ,OB _ _ h,zX (by decide)]
theorem Ew(n i:Nat)(h:i<(aW 256 n).length):((jD n).data.getD i 0).toNat=n / 256^((aW 256 n).length-1-i)%256:=by
 rw[<- JA n i h];show(((BZ n).map UInt8.ofNat).toArray.getD i 0).toNat=_;have c:i<(BZ n).length:=by rw[Ic];exact h
 have a:(BZ n)[i]<256:=qI (b:=256) (by decide) n _ (List.mem_reverse.1 (List.getElem_mem c));rw[qAb,List.getElem?_toArray,List.getElem?_map,qLd c,qLb,qLd c];show(UInt8.ofNat (BZ n)[i]).toNat=(BZ n)[i];rw[UInt8.toNat_ofNat',Nat.mod_eq_of_lt a]
theorem Yk(n:Nat):(!ltI (n:Int) 0)=true:=by simp
theorem orL{t m r:Nat}(a:t<2^r)(b:r<=64)(c:m<aX)(hd:m%2^r=0):IntKind.u64.wrap (((BitVec.ofInt IntKind.u64.bits (m:Int)) |||(BitVec.ofInt IntKind.u64.bits (t:Int))).toNat:Nat)=((m+t:Nat):Int)/\m+t<aX:=by have h:=orN a b c hd;rw[BitVec.or_comm,Nat.add_comm m t];exact h
section
variable (X:Ext) (hX:Mine X)
include hX
theorem abO(n m:Nat)(j:(aW 256 n).length=m)(O:m<=1000000):∀(k i:Nat) (a:List Nat),i+k=m->a.length=(m+7) / 8->ok aX a->val aX a=256^k*(n / 256^k) ->
    L tab (run tab X) 111 [] [.lp [1,1,0,1,0]] (uN (jD n) 0 ((m+7) / 8) m i (aY .u64 a))=some ([.fresh false kU (nU n)],[]):=by
  have _:=hX;intro k;induction k with
  | zero =>
   intro i a G g f l;have s:i=m:=by omega
   subst s;refine L_of ?_;rw[Dn];refine condNP (by omega) ?_;rw[Nat.pow_zero,Nat.one_mul,Nat.div_one]at l;have E:Dig.tight a:=by
    intro d hd H;subst H;have F:a≠[]:=by intro h;rw[h]at hd;simp at hd
    obtain⟨c,hinit⟩:=List.getLast?_eq_some_iff.1 hd;have S:val aX c<aX^c.length:=jQ (λx C=>f x (by rw[hinit];exact List.mem_append_left _ C));have R:val aX a=val aX c:=by rw[hinit,iJ,Nat.mul_zero,Nat.add_zero]
    have Q:a.length=c.length+1:=by rw[hinit];simp
    have h4:aX^c.length=256^(8*c.length):=by rw[Nat.pow_mul]
    have r:0<n:=by
     rcases Nat.eq_zero_or_pos n with h | h
     . exfalso;subst h;rw[bZ]at j;simp at j;omega
     . exact h
    have h5:=yM (b:=256) (by decide) r;rw[j]at h5;have P:256^(8*c.length)<=256^(i-1):=Nat.pow_le_pow_right (by decide) (by omega);omega
   have:=Gg b64 f E l;rw[<- g,whole,this]
  | succ k B =>
   intro i a G g f l;refine L_of ?_;rw[Dn];refine condP (by omega) ?_;have N:IntKind.i64.wrap ((((jD n).size:Nat):Int)-1)=(((m-1:Nat)):Int):=by rw[rP,j,wrap_eq (by omega) (by omega)];omega
   have M:IntKind.i64.wrap ((((m-1:Nat)):Int)-(i:Int))=(k:Int):=by rw[wrap_eq (by omega) (by omega)];omega
   have K:IntKind.i64.wrap ((k:Int).tdiv 8)=((k / 8:Nat):Int):=by rw[Int.tdiv_eq_ediv_of_nonneg (by omega),wrap_eq (by omega) (by omega)];omega
   have J:IntKind.i64.wrap ((k:Int).tmod 8*8)=((k%8*8:Nat):Int):=by rw[Int.tmod_eq_emod_of_nonneg (by omega),wrap_eq (by omega) (by omega)];omega
   have I:IntKind.i64.wrap ((i:Int)+1)=((i+1:Nat):Int):=by rw[wrap_eq (by omega) (by omega)];omega
   have u:(leI (0:Int) ((k / 8:Nat):Int)&&ltI ((k / 8:Nat):Int) (((m+7) / 8:Nat):Int))=true:=by simp;omega
   have t:(leI (0:Int) (i:Int)&&ltI (i:Int) (((jD n).size:Nat):Int))=true:=by rw[rP,j];simp;omega
   have z:(!ltI ((k%8*8:Nat):Int) 0)=true:=Yk _;have A:min (k%8*8) IntKind.u64.bits=k%8*8:=Nat.min_eq_left (show k%8*8<=64 by omega);have o:=Ew n i (by omega);rw[j,show m-1-i=k by omega]at o
   have hb256:n / 256^k%256<256:=qNm _ (by decide);have p:n / 256^k%256*2^(k%8*8)<2^(k%8*8+8):=by rw[Nat.add_comm,Nat.pow_add];exact Nat.mul_lt_mul_of_pos_right hb256 (Nat.pow_pos (by decide))
   have q:n / 256^k%256*2^(k%8*8)<aX:=Nat.lt_of_lt_of_le p (Nat.pow_le_pow_right (n:=2) (by decide) (show k%8*8+8<=64 by omega));have D:a.getD (k / 8) 0<aX:=dZ f (by decide) _;obtain⟨y,w⟩:=orL p (by omega) D (OD f l);simp only[N,M,K,J,I];rw[u,t,z,qCt,qCt,qCt,qCt];simp only[qIt,qNz,dD,A,o];rw[iY (Nat.lt_trans hb256 (by decide)),Oj,Nat.mod_eq_of_lt q,y,gW];refine B (i+1) _ (by omega) (by simpa using g) (KJ f w _) ?_;have v:=CU aX (a.getD (k / 8) 0+n / 256^k%256*2^(k%8*8)) a (k / 8) (by omega);rw[OC];rw[l]at v;have e:aX^(k / 8)*(n / 256^k%256*2^(k%8*8))=256^k*(n / 256^k%256):=by rw[show aX^(k / 8)=256^(8*(k / 8)) by rw[Nat.pow_mul],show 2^(k%8*8)=256^(k%8) by rw[Nat.mul_comm,Nat.pow_mul],Nat.mul_comm (n / 256^k%256),<- Nat.mul_assoc,<- Nat.pow_add,show 8*(k / 8)+k%8=k by omega]
   rw[Nat.mul_add,e]at v;omega
theorem Yl(n:Nat)(a:(aW 256 n).length<=1000000):run tab X 111 [.p (.str (jD n))] []=some ([.fresh false kU (nU n)],[]):=
 run_of (hX _ rfl) (by
  have d:IntKind.i64.wrap (((aW 256 n).length:Int)+7)=(((aW 256 n).length+7:Nat):Int):=by rw[wrap_eq (by omega) (by omega)];omega
  have c:IntKind.i64.wrap ((((aW 256 n).length+7:Nat):Int).tdiv 8)=((((aW 256 n).length+7) / 8:Nat):Int):=by rw[Int.tdiv_eq_ediv_of_nonneg (by omega),wrap_eq (by omega) (by omega)];omega
  have b:(leI (0:Int) ((((aW 256 n).length+7) / 8:Nat):Int)&&(leI ((((aW 256 n).length+7) / 8:Nat):Int) ((((aW 256 n).length+7) / 8:Nat):Int)&&leI ((((aW 256 n).length+7) / 8:Nat):Int) (2147483648:Int)))=true:=by simp;omega
  rw[Y5,rP];simp only[d,c];rw[b,qCt,qIt,gK];refine abO X hX n _ rfl a (aW 256 n).length 0 _ (by omega) (by simp) (zS (by decide) _) ?_;rw[tK,Nat.div_eq_of_lt (nN (by decide)),Nat.mul_zero])
end
end
section
theorem zB(l:List Nat):bytesOf (aY .u8 l)=⟨(l.map UInt8.ofNat).toArray⟩:=by rw[bytesOf,aY,List.map_map];rfl
theorem EM(n:Nat):(aW 256 n).length=(bl n+7) / 8:=Nc n
def eW(z:Int):PV:=.agg [.bool (decide (z<0)),.str (jD z.natAbs)]
theorem wH:jD 0=⟨#[]⟩:=by rw[jD,BZ,bZ];rfl
theorem RI:eW 0=.agg [.bool false,.str ⟨#[]⟩]:=by show PV.agg [.bool (decide ((0:Int)<0)),.str (jD 0)]=_;rw[wH];rfl
theorem Nb.JB(x:Nb):x.z.natAbs=x.2:=by obtain⟨a,m⟩:=x;unfold Nb.z;cases a<;>simp
theorem RJ{n k:Nat}(h:(aW aX n).length<=k):bl n<=64*k:=zk (by rw[Nat.pow_mul];exact vG h)
section
variable (X:Ext) (hX:Mine X) (hB:Bits X)
include hX
theorem abP(n m:Nat)(e:(aW 256 n).length=m)(B:m<=1000000):∀(k i:Nat),i+k=m ->
    L tab (run tab X) 154 [] [.lp [1,1,0,1,0]] (uP (nU n) 0 m m i (aY .u8 ((BZ n).take i++List.replicate (m-i) 0)))=some ([.p (.str (jD n))],[]):=by
  have _:=hX;have v:(BZ n).length=m:=by rw[Ic,e]
  intro k;induction k with
  | zero =>
   intro i u;have d:i=m:=by omega
   subst d;refine L_of ?_;rw[Dq];refine condNP (by omega) ?_;rw[Nat.sub_self,List.replicate_zero,List.append_nil,List.take_of_length_le (l:=BZ n) (by omega),qLy,List.take_of_length_le (l:=aY .u8 (BZ n)) (by rw[bG];omega),zB];rfl
  | succ k r =>
   intro i u;refine L_of ?_;rw[Dq];refine condP (by omega) ?_;have A:IntKind.i64.wrap ((m:Int)-1)=(((m-1:Nat)):Int):=by rw[wrap_eq (by omega) (by omega)];omega
   have z:IntKind.i64.wrap ((((m-1:Nat)):Int)-(i:Int))=(k:Int):=by rw[wrap_eq (by omega) (by omega)];omega
   have y:IntKind.i64.wrap ((k:Int).tdiv 8)=((k / 8:Nat):Int):=by rw[Int.tdiv_eq_ediv_of_nonneg (by omega),wrap_eq (by omega) (by omega)];omega
   have x:IntKind.i64.wrap ((k:Int).tmod 8*8)=((k%8*8:Nat):Int):=by rw[Int.tmod_eq_emod_of_nonneg (by omega),wrap_eq (by omega) (by omega)];omega
   have w:IntKind.i64.wrap ((i:Int)+1)=((i+1:Nat):Int):=by rw[wrap_eq (by omega) (by omega)];omega
   have t:k / 8<(aW aX n).length:=by
    rcases Nat.lt_or_ge (k / 8) (aW aX n).length with h | h
    . exact h
    . exfalso;have f:=vG h;rw[show aX^(k / 8)=256^(8*(k / 8)) by rw[Nat.pow_mul]]at f;have C:=kG (b:=256) (by decide) f;omega
   have o:(leI (0:Int) ((k / 8:Nat):Int)&&ltI ((k / 8:Nat):Int) (((nU n).length:Nat):Int))=true:=by rw[bG];simp;omega
   have j:(leI (0:Int) (i:Int)&&ltI (i:Int) (m:Int))=true:=by simp;omega
   have q:min (k%8*8) IntKind.u64.bits=k%8*8:=Nat.min_eq_left (show k%8*8<=64 by omega);have c:=JA n i (by omega);rw[e,show m-1-i=k by omega]at c
   have g:IntKind.u8.wrap (((aW aX n).getD (k / 8) 0 / 2^(k%8*8):Nat):Int)=((n / 256^k%256:Nat):Int):=by rw[<- Nh,zX b64];show(_:Int)%2^8=_;norm_cast
   simp only[A,z,y,x,w];rw[o,Yk,j,qCt,qCt,qCt];simp only[qIt,qNz,dD,q,BJ,g];have a:((BZ n).take i++List.replicate (m-i) 0).set i (n / 256^k%256)=(BZ n).take (i+1)++List.replicate (m-(i+1)) 0:=by
    rw[List.take_succ_eq_append_getElem (by omega),show m-i=(m-(i+1))+1 by omega];have s:((BZ n).take i).length=i:=by simp;omega
    have:=set_mid ((BZ n).take i) (m-(i+1)) (n / 256^k%256);rw[s]at this;rw[this,<- c,qLb,qLd (by omega)];rfl
   rw[gW,a];exact r (i+1) (by omega)
include hB
theorem c154(n:Nat)(b:(aW aX n).length<=100000):run tab X 154 [.p (.list false kU (nU n))] []=some ([.p (.str (jD n))],[]):=
 run_of (hX _ rfl) (by
  have c:bl n<=64*100000:=RJ b;have a:=EM n;have f:IntKind.i64.wrap ((bl n:Int)+7)=((bl n+7:Nat):Int):=by rw[wrap_eq (by omega) (by omega)];omega
  have e:IntKind.i64.wrap (((bl n+7:Nat):Int).tdiv 8)=((aW 256 n).length:Int):=by rw[Int.tdiv_eq_ediv_of_nonneg (by omega),wrap_eq (by omega) (by omega)];omega
  have d:(leI (0:Int) ((aW 256 n).length:Int)&&(leI ((aW 256 n).length:Int) ((aW 256 n).length:Int)&&leI ((aW 256 n).length:Int) (2147483648:Int)))=true:=by simp;omega
  rw[e154,Uw X hX hB _ (uJ n) (wU n) (by omega),dval];simp only[qOb,qLh,pv_p,toInt_int,f,e];rw[d,qCt,qIt,gK];exact abP X hX n _ rfl (by omega) (aW 256 n).length 0 (by omega))
theorem abQ(x:Nb)(d:x.le 100000):run tab X 114 [.p (eN x)] []=some (if 65536<bl x.2 then [.p (eW 0),.p (.int .i64 7)]else [.p (eW x.z),.p (.int .i64 0)],[]):=
 run_of (hX _ rfl) (by
  have b:(aW aX x.2).length<=100000:=d;rw[eN,Y8,Uw X hX hB _ (uJ _) (wU _) (by omega),dval];simp only[qOb,qLh,pv_p,toInt_int,bG];by_cases h:65536<bl x.2
  . rw[if_pos h,RI];exact condP (by omega) rfl
  . rw[if_neg h];refine condNP (by omega) ?_;rw[c154 X hX hB _ b];simp only[qOb,qLh,pv_p,toStr_str];rw[eW,Nb.JB];have c:decide (x.z<0)=(x.1&&decide (0<x.2)):=by obtain⟨a,m⟩:=x;unfold Nb.z;cases a<;>simp<;>omega
    rw[c];by_cases hp:0<x.2
    . have:=wS hp;rw[show gtI ((aW aX x.2).length:Int) 0=true by simp;exact this,show decide (0<x.2)=true by simpa using hp];cases x.1<;>rfl
    . have e:x.2=0:=by omega
      rw[e,bZ];cases x.1<;>rfl)
end
end
end Go.Skm.Fen
