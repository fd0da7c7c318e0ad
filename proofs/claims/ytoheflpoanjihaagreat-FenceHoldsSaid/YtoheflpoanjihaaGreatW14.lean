import Derived.Test.YtoheflpoanjihaaGreatW8
set_option linter.all false
namespace Go.Skm.Fen
open Go Go.Skm Go.Skm.Dig
section
theorem adF(R:List Nat)(j m i:Nat)(h:i<m):((R.drop j).take m).getD i 0=R.getD (j+i) 0:=by grind
theorem akQ{R:List Nat}(a:ok bH R)(j m:Nat):ok bH ((R.drop j).take m):=Lp (agw a j) m
theorem last_pos{N:List Nat}(a:Dig.tight N)(h:N≠[]):0<N.getD (N.length-1) 0:=by
 have c:0<N.length:=List.length_pos_iff.2 h;have b:N.getLast?=some (N.getD (N.length-1) 0):=by grind
 exact Nat.pos_of_ne_zero (a _ b)
section
variable (X:Ext) (hX:Mine X) (hB:Bits X)
include hX hB
theorem XL(g:Nat)(a:g<bH):(run tab X) 113 [.slice 100000 1 0 1] [.arr false kU [.int .u64 (g:Int)]]=some ([.slice 100000 1 0 (trim (([g].drop 0).take 1)).length],[.arr false kU (bI .u64 [g])]):=by have _:=hB;have _:=a;exact abe X hX [g] (by simp) 0 1 (by simp)
theorem agx(D:List Nat)(f:ok bH D)(e:D.length<=10000000)(g:Nat)(c:g<bH):((run tab X) 113 [.slice 100000 1 0 1] [.arr false kU [.int .u64 (g:Int)]]).bind (λa=>(run tab X) 173 [.p (.list false kU (bI .u64 D)),.p (.list false kU ((((a.2.headD (.box [])).xs).drop ((a.1.headD .undef).qM)).take ((a.1.headD .undef).sLen)))] [])=some ([.fresh false kU (bI .u64 (bG bH (val bH D*g)))],[]):=by
 rw[XL X hX hB g c];simp only[qOb,qLh,yF,kL,kM];have b:ok bH [g]:=λd hd=>by rw[List.mem_singleton.1 hd];exact c
 rw[trimmed [g] b,show([g].drop 0).take 1=[g] from rfl,val_one,c173 X hX hB _ _ f (Ho _) ?_,dval];have:(bG bH g).length<=1:=lF (by simpa using c);omega
theorem axS(s:Nat)(W:s<64)(D:List Nat)(n k V:Nat)(hn:n<=90000)(y:ok bH D)(t:Dig.tight D)(b:D.length=k)(hk:0<k)(Z:k<=n):∀(c:Nat) (R e:List Nat),c+e.length=n+1-k->R.length=n+1->ok bH R->ok bH e ->
    V=val bH R+bH^c*(val bH e*val bH D)->val bH R<bH^c*val bH D ->
    L tab (run tab X) 186 [] [.lp [1,1,1,1,1,1,1,1,0,1,0]] (pW s 0 k 0 (n+1) k 0 (n+1-k) ((c:Int)-1) (bI .u64 D) (bI .u64 R) (bI .u64 (List.replicate c 0++e)))=some ([.fresh false kU (bI .u64 (bG bH (V / val bH D))),.p (.list false kU (bI .u64 (bG bH (V%val bH D / 2^s))))],[]):=by
  have z:D≠[]:=by intro h;rw[h]at b;simp at b;omega
  have E:0<D.getD (k-1) 0:=by rw[<- b];exact last_pos t z
  have l:0<val bH D:=Ue b64 t z;have o:val bH D<=bH^k:=by rw[<- b];exact Nat.le_of_lt (rU y)
  have F:D.getD (k-1) 0<bH:=jy y (by decide) _;intro c;induction c with
  | zero =>
   intro R e Y a f G v d;refine dU ?_;rw[Gh];refine dR (by simp) ?_;rw[Nat.pow_zero,Nat.one_mul]at d v;have e1:V / val bH D=val bH e:=by rw[v,Nat.add_comm,Nat.mul_comm,Nat.mul_add_div l,Nat.div_eq_of_lt d,Nat.add_zero]
   have e2:V%val bH D=val bH R:=by rw[v,Nat.add_comm,Nat.mul_comm,Nat.mul_add_mod,Nat.mod_eq_of_lt d]
   rw[e1,e2,List.replicate_zero,List.nil_append,abe X hX e (by omega) 0 _ (by omega)];simp only[qOb,qLh,yF,kL,kM];rw[abe X hX R (by omega) 0 _ (by omega)];simp only[qOb,qLh,yF,kL,kM];have hRl:(bG bH (val bH R)).length<=n+1:=lF (by rw[<- a];exact rU f);rw[trimmed e G,trimmed R f,qLy,qLy,<- a,List.take_length,show R.length-k=e.length by omega,List.take_length,ayb X hX hB _ s W (Ho _) (by omega),dval];simp
  | succ j T =>
   intro R e Y a f G v d;have i:j+k<=n:=by omega
   obtain⟨w1,A⟩:=afl (show 0<bH by decide) a i d o;have u:((R.drop j).take (k+1)).length=k+1:=by simp;omega
   obtain⟨M,g⟩:=aio (show 0<bH by decide) (akQ f j (k+1)) u b hk E A;rw[adF R j (k+1) k (by omega),adF R j (k+1) (k-1) (by omega)]at M g;have B:val bH ((R.drop j).take (k+1))<bH^(k+1):=by have:=rU (akQ f j (k+1));rwa[u]at this
   have m:val bH ((R.drop j).take (k+1))-val bH D*(val bH ((R.drop j).take (k+1)) / val bH D)<bH^(k+1):=Nat.lt_of_le_of_lt (Nat.sub_le _ _) B;obtain⟨O,N⟩:=agz (L:=bG bH (val bH ((R.drop j).take (k+1))-val bH D*(val bH ((R.drop j).take (k+1)) / val bH D))) (show 0<bH by decide) f a i d o l (lF m) rfl (dval _)
   have K:=T (Ji R j k (bG bH (val bH ((R.drop j).take (k+1))-val bH D*(val bH ((R.drop j).take (k+1)) / val bH D)))) ((val bH ((R.drop j).take (k+1)) / val bH D)::e) (by simp;omega) (Zt a i (lF m)) (aip (by decide) f (Ho _))
    (xX.2 ⟨by rw[Nat.div_lt_iff_lt_mul l];exact A,G⟩) (by rw[v,O];show _=_+bH^j*((_+bH*val bH e)*val bH D);grind) N
   have inner:=asn X hX hB s D R (List.replicate (j+1) 0++e) n j k (n+1-k) (by omega) y t b l f a i (by omega) (by simp;omega) A _ (by rw[Wn];exact K) _ M g;refine dU ?_;rw[show((j+1:Nat):Int)-1=(j:Int) by omega,Gh];refine fK (by omega) ?_;have a1:IntKind.i64.wrap ((j:Int)+(k:Int))=((j+k:Nat):Int):=by rw[wrap_eq (by omega) (by omega)];omega
   have a2:IntKind.i64.wrap ((k:Int)-1)=((k-1:Nat):Int):=by rw[wrap_eq (by omega) (by omega)];omega
   have a3:IntKind.i64.wrap (((j+k:Nat):Int)-1)=((j+(k-1):Nat):Int):=by rw[wrap_eq (by omega) (by omega)];omega
   have a4:IntKind.i64.wrap (((j+k:Nat):Int)+1)=((j+k+1:Nat):Int):=by rw[wrap_eq (by omega) (by omega)];omega
   have S:(leI (0:Int) ((j+k:Nat):Int)&&cu ((j+k:Nat):Int) ((n+1:Nat):Int))=true:=by simp;omega
   have Q:(leI (0:Int) ((k-1:Nat):Int)&&cu ((k-1:Nat):Int) (k:Int))=true:=by simp;omega
   have P:(leI (0:Int) ((j+(k-1):Nat):Int)&&cu ((j+(k-1):Nat):Int) ((n+1:Nat):Int))=true:=by simp;omega
   have I:(leI (0:Int) (j:Int)&&(leI (j:Int) ((j+k+1:Nat):Int)&&(leI ((j+k+1:Nat):Int) ((n+1:Nat):Int)&&leI ((n+1:Nat):Int) ((n+1:Nat):Int))))=true:=by simp;omega
   have H:((j+k+1:Nat):Int)-(j:Int)=((k+1:Nat):Int):=by omega
   have x:((bI .u64 D).drop 0).take k=bI .u64 D:=by rw[<- b];exact whole D
   simp only[a1,a2,a3,a4];rw[S,Q,qCt,qCt];simp only[qIt,iy,qNz];have C:R.getD (j+(k-1)) 0<bH:=jy f (by decide) _;have U:R.getD (j+k) 0<bH:=jy f (by decide) _;by_cases J:((R.getD (j+k) 0:Nat):Int)<((D.getD (k-1) 0:Nat):Int)
   . refine fK J ?_;have r:R.getD (j+k) 0<D.getD (k-1) 0:=by omega
     have q:(R.getD (j+k) 0*bH+R.getD (j+(k-1)) 0) / D.getD (k-1) 0=guess bH (R.getD (j+k) 0) (R.getD (j+(k-1)) 0) (D.getD (k-1) 0):=by rw[guess,if_pos r]
     rw[qCt,P,qCt,qCt,hB.w.div _ _ _ r C F,q];revert inner g;generalize guess bH (R.getD (j+k) 0) (R.getD (j+(k-1)) 0) (D.getD (k-1) 0)=gg;intro g inner;simp only[qOb,qLh,bV,toInt_int,I,qCt,x,H,qIt];have hp:=agx X hX hB D y (by omega) _ g;rw[XL X hX hB _ g]at hp ⊢;simp only[qOb,qLh,yF,kL,kM]at hp ⊢;rw[hp];simp only[qOb,qLh,dJ,dI];exact inner
   . refine dR J ?_;have r:¬ R.getD (j+k) 0<D.getD (k-1) 0:=by omega
     have q:(18446744073709551615:Int)=((guess bH (R.getD (j+k) 0) (R.getD (j+(k-1)) 0) (D.getD (k-1) 0):Nat):Int):=by grind[guess]
     rw[q];revert inner g;generalize guess bH (R.getD (j+k) 0) (R.getD (j+(k-1)) 0) (D.getD (k-1) 0)=gg;intro g inner;simp only[I,qCt,x,H,qIt];have hp:=agx X hX hB D y (by omega) _ g;rw[XL X hX hB _ g]at hp ⊢;simp only[qOb,qLh,yF,kL,kM]at hp ⊢;rw[hp];simp only[qOb,qLh,dJ,dI];exact inner
end
end
section
variable {k n y:Nat}
abbrev nU(n:Nat):List PV:=bI .u64 (bG bH n)
theorem IU(h:(bG bH n).length<=k):n<bH^k:=Nat.lt_of_lt_of_le (xY b64) (Nat.pow_le_pow_right (by decide) h)
theorem zF{a b:Nat}(h:a<=b):(bG bH a).length<=(bG bH b).length:=lF (Nat.lt_of_le_of_lt h (xY b64))
theorem KL(h:0<n):0<(bG bH n).length:=by
 rcases Nat.eq_zero_or_pos (bG bH n).length with a | a
 . have:=(qZ b64).1 (List.length_eq_zero_iff.1 a);omega
 . exact a
theorem adA(h:(bG bH y).length=1):(bG bH y).getD 0 0=y:=by have b:=dval y;revert h b;generalize bG bH y=l;intro h b;obtain⟨a,rfl⟩:=List.length_eq_one_iff.1 h;grind[val_one]
theorem akG{s:Nat}(x:0<y)(i:(bG bH y).length=k)(g:s=64-bl ((bG bH y).getD (k-1) 0)) :
    s<64/\(bG bH (y*2^s)).length=k/\bH^(k-1)*2^63<=y*2^s/\y*2^s<bH^k:=by
  have p:0<k:=by rw[<- i];exact KL x
  have m:bG bH y≠[]:=by intro h;rw[h]at i;simp at i;omega
  have a:0<(bG bH y).getD (k-1) 0:=by rw[<- i];exact last_pos (KO y) m
  have j:(bG bH y).getD (k-1) 0<bH:=jy (Ho y) (by decide) _;have f:=Me bH (bG bH y) (k-1) (by omega);rw[List.drop_eq_nil_of_le (show(bG bH y).length<=k-1+1 by omega),show val bH []=0 from rfl,Nat.mul_zero,Nat.add_zero,dval]at f;have c:=rU (Lp (Ho y) (k-1));rw[List.length_take,Nat.min_eq_left (by omega)]at c;have b1:=MR ((bG bH y).getD (k-1) 0);have u:=agt a;have w:=abf a;have v:=adB j;revert g f b1 u w v;generalize (bG bH y).getD (k-1) 0=t;generalize bl t=b;intro g f b1 u w v;have l:s<64:=by omega
  have r:2^(b-1)*2^s=2^63:=by rw[<- Nat.pow_add,g,show b-1+(64-b)=63 by omega]
  have q:2^b*2^s=bH:=by rw[<- Nat.pow_add,g,show b+(64-b)=64 by omega]
  have o:bH^(k-1)*2^63<=y*2^s:=by rw[<- r,<- Nat.mul_assoc];refine Nat.mul_le_mul_right _ ?_;rw[f];exact Nat.le_trans (Nat.mul_le_mul_left _ u) (Nat.le_add_left _ _)
  have d:y*2^s<bH^k:=by
   have e:bH^k=bH^(k-1)*2^b*2^s:=by rw[Nat.mul_assoc,q,<- Nat.pow_succ,Nat.succ_eq_add_one,Nat.sub_add_cancel p]
   rw[e];refine Nat.mul_lt_mul_of_pos_right ?_ (Nat.pow_pos (by decide));have:=Nat.mul_le_mul_left (bH^(k-1)) b1;grind
  refine⟨l,Nat.le_antisymm (lF d) ?_,o,d⟩;rcases Nat.lt_or_ge (bG bH (y*2^s)).length k with h | h
  . exfalso;have z:y*2^s<bH^(k-1):=IU (by omega);omega
  . exact h
theorem aff(L:List Nat)(n:Nat)(h:L.length<=n):patch (bI .u64 (List.replicate n 0)) 0 ((((bI .u64 L).drop 0).take (bI .u64 L).length).take (Nat.min (bI .u64 L).length n))=bI .u64 (L++List.replicate (n-L.length) 0):=by rw[qLy,List.take_length,dI,List.take_of_length_le (by rw[dI];exact Nat.le_min.2 ⟨qNr _,h⟩),Ox,List.take_zero,List.nil_append,qNz,List.drop_replicate]
section
variable (X:Ext) (hX:Mine X) (hB:Bits X)
include hX hB
theorem ar6(x y:Nat)(j:0<y)(J:(bG bH x).length<=90000)(C:(bG bH y).length<=90000):run tab X 186 [.p (.list false kU (nU x)),.p (.list false kU (nU y))] []=some ([.fresh false kU (nU (x / y)),.p (.list false kU (nU (x%y)))],[]):=
 aY (hX _ rfl) (by
  have c:0<(bG bH y).length:=KL j;have q:(bG bH y).getD ((bG bH y).length-1) 0<bH:=jy (Ho y) (by decide) _;rw[atI,c156 X hX _ _ (Ho x) (Ho y) (by omega) (by omega)];simp only[qOb,qLh,bV,toInt_int,dI];by_cases b:x<y
  . refine fK (by rw[Es];exact b) ?_;rw[Nat.div_eq_of_lt b,Nat.mod_eq_of_lt b,show nU 0=[] by rw[nU,gW];rfl]
  . refine dR (by rw[Es];exact b) ?_;by_cases w:(bG bH y).length=1
    . rw[w];refine fK (by omega) ?_;have u:=adA w;have g:y<bH:=by rw[<- u];exact jy (Ho y) (by decide) 0
      rw[show cu 0 ((1:Nat):Int)=true from rfl,qCt,iy,u,axR X hX hB _ y (Ho x) j g (by omega),dval];simp only[qOb,qLh,List.tail_cons,bV,toInt_int,dJ];have v:x%y<bH:=Nat.lt_trans (qNm _ j) g;rw[XL X hX hB _ v];simp only[qOb,qLh,yF,kL,kM];rw[trimmed [x%y] (λd hd=>by rw[List.mem_singleton.1 hd];exact v),qLy,List.take_length,show([x%y].drop 0).take 1=[x%y] from rfl,val_one]
    . refine dR (by omega) ?_;obtain⟨f,s2,l,t⟩:=akG j rfl rfl;have e:(bG bH y).length<=(bG bH x).length:=zF (Nat.le_of_not_lt b);have o:bG bH x≠[]:=by intro h;rw[h]at e;exact absurd (Nat.lt_of_lt_of_le c e) (Nat.lt_irrefl _)
      have m:bG bH y≠[]:=by intro h;rw[h]at c;simp at c
      have I:IntKind.i64.wrap (((bG bH y).length:Int)-1)=(((bG bH y).length-1:Nat):Int):=by rw[wrap_eq (by omega) (by omega)];omega
      have H:IntKind.i64.wrap (((bG bH x).length:Int)+1)=(((bG bH x).length+1:Nat):Int):=by rw[wrap_eq (by omega) (by omega)];omega
      have G:IntKind.i64.wrap ((((bG bH x).length+1:Nat):Int)-((bG bH y).length:Int))=(((bG bH x).length+1-(bG bH y).length:Nat):Int):=by rw[wrap_eq (by omega) (by omega)];omega
      have F:IntKind.i64.wrap ((((bG bH x).length+1-(bG bH y).length:Nat):Int)-1)=(((bG bH x).length+1-(bG bH y).length:Nat):Int)-1:=wrap_eq (by omega) (by omega);have B:(leI (0:Int) (((bG bH y).length-1:Nat):Int)&&cu (((bG bH y).length-1:Nat):Int) (((bG bH y).length:Nat):Int))=true:=by simp;omega
      have A:(leI (0:Int) (((bG bH x).length+1:Nat):Int)&&(leI (((bG bH x).length+1:Nat):Int) (((bG bH x).length+1:Nat):Int)&&leI (((bG bH x).length+1:Nat):Int) (2147483648:Int)))=true:=by simp;omega
      have z:(leI (0:Int) (((bG bH x).length+1-(bG bH y).length:Nat):Int)&&(leI (((bG bH x).length+1-(bG bH y).length:Nat):Int) (((bG bH x).length+1-(bG bH y).length:Nat):Int)&&leI (((bG bH x).length+1-(bG bH y).length:Nat):Int) (2147483648:Int)))=true:=by simp;omega
      rw[I,H,B,qCt];simp only[qIt,iy];rw[an8 X hX _ q];simp only[qOb,qLh,bV,toInt_int];revert f s2 l t;generalize 64-bl ((bG bH y).getD ((bG bH y).length-1) 0)=s;intro f s2 l t;rw[ar7 X hX hB _ s f (Ho y) m (by omega),dval];simp only[qOb,qLh,dJ,dI];rw[A,qCt,ar7 X hX hB _ s f (Ho x) o (by omega),dval];simp only[qOb,qLh,dJ];have r:(bG bH (x*2^s)).length<=(bG bH x).length+1:=by refine lF ?_;rw[Nat.pow_succ];exact Nat.mul_lt_mul'' (xY b64) (Nat.pow_lt_pow_right (a:=2) (by decide) f)
      rw[s2,G,z,qCt,qIt,F,lI,lI,aff _ _ r];have i:x*2^s<bH^((bG bH x).length+1-(bG bH y).length)*(y*2^s):=by
       have E:x*2^s<bH^(bG bH x).length*2^63:=by refine Nat.lt_of_lt_of_le (Nat.mul_lt_mul_of_pos_right (xY b64 (n:=x)) (Nat.pow_pos (by decide))) (Nat.mul_le_mul_left _ (Nat.pow_le_pow_right (by decide) (by omega)))
       refine Nat.lt_of_lt_of_le E ?_;have D:bH^(bG bH x).length=bH^((bG bH x).length+1-(bG bH y).length)*bH^((bG bH y).length-1):=by rw[<- Nat.pow_add,show(bG bH x).length+1-(bG bH y).length+((bG bH y).length-1)=(bG bH x).length by omega]
       rw[D,Nat.mul_assoc];exact Nat.mul_le_mul_left _ l
      have:=axS X hX hB s f (bG bH (y*2^s)) (bG bH x).length (bG bH y).length (x*2^s) (by omega) (Ho _) (KO _) s2 c e
       ((bG bH x).length+1-(bG bH y).length) (bG bH (x*2^s)++List.replicate ((bG bH x).length+1-(bG bH (x*2^s)).length) 0) [] (by simp) (by simp;omega)
       (lG.2 ⟨Ho _,PK (by decide) _⟩) (yX _) (by rw[Zr,dval];simp[val]) (by rw[Zr,dval,dval];exact i)
      rw[List.append_nil,dval,Nat.mul_div_mul_right _ _ (Nat.pow_pos (by decide)),Nat.mul_mod_mul_right,Nat.mul_div_cancel _ (Nat.pow_pos (by decide))]at this;exact this)
end
end
section
abbrev Nb:=Bool × Nat
def eN(x:Nb):PV:=.agg [.bool x.1,.list false kU (nU x.2)]
def Nb.z(x:Nb):Int:=if x.1 then -(x.2:Int)else x.2
def aia(x y:Nb):Nb:=if x.1=y.1 then(x.1,x.2+y.2)else if y.2<=x.2 then(x.1,x.2-y.2)else(y.1,y.2-x.2)
def KQ(x y:Nb):Nb:=(!(x.1==y.1),x.2*y.2)
def afg(x:Nb):Nb:=(!x.1,x.2)
def sgP(x:Nb):Int:=if x.2=0 then 0 else if x.1 then -1 else 1
def Nb.le(x:Nb)(k:Nat):Prop:=(bG bH x.2).length<=k
theorem XM(x y:Nb):(aia x y).z=x.z+y.z:=by grind[aia,Nb.z]
theorem Oy(x y:Nb):(KQ x y).z=x.z*y.z:=by obtain⟨a,m⟩:=x;obtain⟨b,n⟩:=y;unfold KQ Nb.z;grind
theorem afh(x:Nb):(afg x).z=-x.z:=by grind[afg,Nb.z]
theorem akH(x:Nb):sgP x=x.z.sign:=by obtain⟨a,m⟩:=x;unfold sgP Nb.z;grind
theorem abg{x y:Nb}{k:Nat}(b:x.le k)(a:y.le k):(aia x y).le (k+1):=by have e:x.2<bH^k:=IU b;have d:y.2<bH^k:=IU a;have c:bH^(k+1)=bH^k*bH:=Nat.pow_succ ..;have h4:bH^k*2<=bH^k*bH:=Nat.mul_le_mul_left _ (by decide);refine lF ?_;grind[aia]
theorem E8{x y:Nb}{k l:Nat}(b:x.le k)(a:y.le l):(KQ x y).le (k+l):=by refine lF ?_;rw[Nat.pow_add];exact Nat.mul_lt_mul'' (IU b) (IU a)
section
variable (X:Ext) (hX:Mine X) (hB:Bits X)
include hX
theorem an9(x:Nb):run tab X 118 [.p (eN x)] []=some ([.p (eN (afg x))],[]):=aY (hX _ rfl) (by rw[eN,e118];rfl)
theorem c119(x:Nb):run tab X 119 [.p (eN x)] []=some ([Ab (sgP x)],[]):=
 aY (hX _ rfl) (by
  rw[eN,e119,sgP];simp only[dI];by_cases h:x.2=0
  . grind[gW]
  . rw[if_neg h];have:=KL (Nat.pos_of_ne_zero h);grind)
theorem c117(x y:Nb)(e:x.le 1000000)(c:y.le 1000000):run tab X 117 [.p (eN x),.p (eN y)] []=some ([.p (eN (aia x y))],[]):=
 aY (hX _ rfl) (by
  have d:(bG bH x.2).length<=1000000:=e;have b:(bG bH y.2).length<=1000000:=c;rw[eN,eN,e117,aia];by_cases h:x.1=y.1
  . rw[if_pos h,show(x.1==y.1)=true by simp[h],qCt,axT X hX _ _ (Ho _) (Ho _) (by omega) (by omega),dval,dval];simp only[qOb,qLh,dJ,qLy,List.take_length];rfl
  . rw[if_neg h,show(x.1==y.1)=false by simp[h],qCf,c156 X hX _ _ (Ho _) (Ho _) (by omega) (by omega)];simp only[qOb,qLh,bV,toInt_int];by_cases a:y.2<=x.2
    . rw[if_pos a];refine fK (Int.not_lt.1 λf=>absurd ((Es x.2 y.2).1 f) (by omega)) ?_;rw[c157 X hX _ _ (Ho _) (Ho _) (by omega) (zF a) (by rw[dval,dval];exact a),dval,dval];simp only[qOb,qLh,dJ,qLy,List.take_length];rfl
    . rw[if_neg a];refine dR (by have:=(Es x.2 y.2).2 (by omega);omega) ?_;rw[c157 X hX _ _ (Ho _) (Ho _) (by omega) (zF (by omega)) (by rw[dval,dval];omega),dval,dval];simp only[qOb,qLh,dJ,qLy,List.take_length];rfl)
theorem c141(hB:Words X)(x y:Nb)(d:x.le 1000000)(b:y.le 1000000):run tab X 141 [.p (eN x),.p (eN y)] []=some ([.p (eN (KQ x y))],[]):=
 aY (hX _ rfl) (by have c:(bG bH x.2).length<=1000000:=d;have a:(bG bH y.2).length<=1000000:=b;rw[eN,eN,atm,c173 X hX hB _ _ (Ho _) (Ho _) (by omega),dval,dval];simp only[qOb,qLh,dJ,qLy,List.take_length];rfl)
include hB
theorem axU:∀(y x:Nat),(bG bH x).length<=90000->(bG bH y).length<=90000->L tab (run tab X) 171 [] [.lp [1,0,0]] (OU (nU x) (nU y))=some ([.p (.list false kU (nU (Nat.gcd x y)))],[]):=by
 intro y;induction y using Nat.strongRecOn with
 | ind y b =>
  intro x c a;refine dU ?_;rw[aiC];simp only[dI];rcases Nat.eq_zero_or_pos y with h | h
  . grind[gW,Nat.gcd_zero_right]
  . have d:=KL h;refine fK (by omega) ?_;rw[ar6 X hX hB x y h c a];simp only[qOb,qLh,List.tail_cons,bV,EO];rw[b (x%y) (qNm _ h) y a (Nat.le_trans (zF (Nat.le_of_lt (qNm _ h))) a),Nat.gcd_comm x y,Nat.gcd_rec y x,Nat.gcd_comm y (x%y)]
theorem c171(x y:Nat)(b:(bG bH x).length<=90000)(a:(bG bH y).length<=90000):run tab X 171 [.p (.list false kU (nU x)),.p (.list false kU (nU y))] []=some ([.p (.list false kU (nU (Nat.gcd x y)))],[]):=
 aY (hX _ rfl) (by rw[atA];exact axU X hX hB y x b a)
theorem ar9(x y:Nb)(c:x.le 90000)(b:y.le 90000)(hp:0<y.2)(hd:y.2 ∣ x.2):run tab X 172 [.p (eN x),.p (eN y)] []=some ([.p (eN (!(x.1==y.1),x.2 / y.2)),.p (eN (false,0))],[]):=
 aY (hX _ rfl) (by
  rw[eN,eN,atB,ar6 X hX hB x.2 y.2 hp c b,Nat.mod_eq_zero_of_dvd hd];have a:nU 0=[]:=by rw[nU,gW];rfl
  rw[a];simp only[qOb,qLh,List.tail_cons,bV,EO,dJ,qLy,List.take_length];have e:some ([AV.p (PV.agg [PV.bool (!(x.1==y.1)),PV.list false kU (nU (x.2 / y.2))]),AV.p (PV.agg [PV.bool false,PV.list false kU []])],([]:List bZ))=some ([.p (eN (!(x.1==y.1),x.2 / y.2)),.p (eN (false,0))],[]):=by rw[eN,eN,a]
  grind)
end
end
end Go.Skm.Fen
namespace Go.Skm.Dig
theorem UK{b:Nat}:∀{l:List Nat},ok b l->∀ i,l.getD i 0=val b l / b^i%b
 |[],_,i=>by simp[val]
 | d::r,h,0=>by have hd:=h d List.mem_cons_self;show d=(d+b*val b r) / b^0%b;rw[Nat.pow_zero,Nat.div_one,Nat.add_mul_mod_self_left,Nat.mod_eq_of_lt hd]
 | d::r,h,i+1=>by have hd:=h d List.mem_cons_self;have a:=UK (λx c=>h x (List.mem_cons_of_mem _ c):ok b r) i;show r.getD i 0=(d+b*val b r) / b^(i+1)%b;rw[a,Nat.pow_succ',<- Nat.div_div_eq_div_mul,Nat.add_comm,Nat.mul_add_div (by omega),Nat.div_eq_of_lt hd,Nat.add_zero]
theorem Qv{b:Nat}(a:2<=b)(n i:Nat):(bG b n).getD i 0=n / b^i%b:=by rw[UK (BZ a n),sO a]
theorem aiq(l:List Nat)(i:Nat)(h:i<l.length):l.reverse.getD i 0=l.getD (l.length-1-i) 0:=by grind
theorem agA(n:Nat):(bG 256 n).length=((bG 2 n).length+7) / 8:=by
 rcases Nat.eq_zero_or_pos n with h | h
 . grind[gW]
 . have g:=xY (b:=2) (by decide) (n:=n);have f:=OB (b:=2) (by decide) h;have b1:=xY (b:=256) (by decide) (n:=n);have d:=OB (b:=256) (by decide) h;have e:∀ k,256^k=2^(8*k):=λk=>by rw[Nat.pow_mul]
   have j:0<(bG 2 n).length:=List.length_pos_iff.2 λc=>by have:=(qZ (b:=2) (by decide)).1 c;omega
   have i:0<(bG 256 n).length:=List.length_pos_iff.2 λc=>by have:=(qZ (b:=256) (by decide)).1 c;omega
   rw[e]at b1 d;have l:(bG 2 n).length-1<8*(bG 256 n).length:=(Nat.pow_lt_pow_iff_right (a:=2) (by decide)).1 (Nat.lt_of_le_of_lt f b1);have c:8*((bG 256 n).length-1)<(bG 2 n).length:=(Nat.pow_lt_pow_iff_right (a:=2) (by decide)).1 (Nat.lt_of_le_of_lt d g);omega
theorem agB(n k:Nat):n / 18446744073709551616^(k / 8)%18446744073709551616 / 2^(k%8*8)%256=n / 256^k%256:=by
 have e:(18446744073709551616:Nat)^(k / 8)=256^(8*(k / 8)):=by rw[Nat.pow_mul]
 have d:2^(k%8*8)=256^(k%8):=by rw[Nat.mul_comm,Nat.pow_mul]
 have c:(18446744073709551616:Nat)=256^(k%8)*256^(8-k%8):=by rw[<- Nat.pow_add,show k%8+(8-k%8)=8 by omega]
 have b:256^(8-k%8)=256*256^(7-k%8):=by rw[<- Nat.pow_succ',show(7-k%8).succ=8-k%8 by omega]
 rw[e,d];generalize a:n / 256^(8*(k / 8))=N;rw[c,Nat.mod_mul_right_div_self,b,Nat.mod_mul_right_mod,<- a,Nat.div_div_eq_div_mul,<- Nat.pow_add,show 8*(k / 8)+k%8=k by omega]
theorem air(n k:Nat):256^k*(n / 256^k)=256^(k+1)*(n / 256^(k+1))+256^k*(n / 256^k%256):=by have h:=Nat.div_add_mod (n / 256^k) 256;grind[Nat.div_div_eq_div_mul]
theorem ais{l:List Nat}{n k:Nat}(h:ok 18446744073709551616 l)(a:val 18446744073709551616 l=256^(k+1)*n):l.getD (k / 8) 0%2^(k%8*8+8)=0:=by
 have d:(18446744073709551616:Nat)^(k / 8)=256^(8*(k / 8)):=by rw[Nat.pow_mul]
 have c:2^(k%8*8+8)=256^(k%8+1):=by rw[show k%8*8+8=8*(k%8+1) by omega,Nat.pow_mul]
 have e:(18446744073709551616:Nat)=256^(k%8+1)*256^(7-k%8):=by rw[<- Nat.pow_add,show k%8+1+(7-k%8)=8 by omega]
 have b:256^(k+1)=256^(8*(k / 8))*256^(k%8+1):=by rw[<- Nat.pow_add,show 8*(k / 8)+(k%8+1)=k+1 by omega]
 rw[UK h,a,d,b,Nat.mul_assoc,Nat.mul_div_cancel_left _ (Nat.pow_pos (by decide)),c];simp_all
end Go.Skm.Dig
namespace Go.Skm.Fen
open Go Go.Skm Go.Skm.Dig
section
def VA(n:Nat):List Nat:=(bG 256 n).reverse
def vk(n:Nat):ByteArray:=⟨((VA n).map UInt8.ofNat).toArray⟩
theorem abh(n:Nat):(VA n).length=(bG 256 n).length:=by rw[VA,List.length_reverse]
theorem Hr(n:Nat):(vk n).size=(bG 256 n).length:=by show((VA n).map UInt8.ofNat).toArray.size=_;rw[List.size_toArray,qLm,abh]
theorem adC(n i:Nat)(h:i<(bG 256 n).length):(VA n).getD i 0=n / 256^((bG 256 n).length-1-i)%256:=by rw[VA,aiq _ _ h,Qv (by decide)]
theorem adD(n i:Nat)(h:i<(bG 256 n).length):((vk n).data.getD i 0).toNat=n / 256^((bG 256 n).length-1-i)%256:=by
 rw[<- adC n i h];show(((VA n).map UInt8.ofNat).toArray.getD i 0).toNat=_;have c:i<(VA n).length:=by rw[abh];exact h
 have a:(VA n)[i]<256:=BZ (b:=256) (by decide) n _ (List.mem_reverse.1 (List.getElem_mem c));simp_all
theorem asa(n:Nat):(!cu (n:Int) 0)=true:=by simp
theorem orL{t m r:Nat}(a:t<2^r)(b:r<=64)(c:m<bH)(hd:m%2^r=0):IntKind.u64.wrap (((BitVec.ofInt IntKind.u64.bits (m:Int)) |||(BitVec.ofInt IntKind.u64.bits (t:Int))).toNat:Nat)=((m+t:Nat):Int)/\m+t<bH:=by have h:=orN a b c hd;grind
section
variable (X:Ext) (hX:Mine X)
include hX
theorem axX(n m:Nat)(q:(bG 256 n).length=m)(O:m<=1000000):∀(k i:Nat) (a:List Nat),i+k=m->a.length=(m+7) / 8->ok bH a->val bH a=256^k*(n / 256^k) ->
    L tab (run tab X) 111 [] [.lp [1,1,0,1,0]] (Hw (vk n) 0 ((m+7) / 8) m i (bI .u64 a))=some ([.fresh false kU (nU n)],[]):=by
  have _:=hX;intro k;induction k with
  | zero =>
   intro i a G g f j;have s:i=m:=by omega
   subst s;refine dU ?_;rw[U0];refine dR (by omega) ?_;rw[Nat.pow_zero,Nat.one_mul,Nat.div_one]at j;have E:Dig.tight a:=by
    intro d hd H;subst H;have F:a≠[]:=by intro h;rw[h]at hd;simp at hd
    obtain⟨c,hinit⟩:=List.getLast?_eq_some_iff.1 hd;have S:val bH c<bH^c.length:=rU (λx C=>f x (by rw[hinit];exact List.mem_append_left _ C));have R:val bH a=val bH c:=by rw[hinit,nR,Nat.mul_zero,Nat.add_zero]
    have Q:a.length=c.length+1:=by rw[hinit];simp
    have h4:bH^c.length=256^(8*c.length):=by rw[Nat.pow_mul]
    have r:0<n:=by grind[gW]
    have h5:=OB (b:=256) (by decide) r;rw[q]at h5;have P:256^(8*c.length)<=256^(i-1):=Nat.pow_le_pow_right (by decide) (by omega);omega
   have:=Zq b64 f E j;rw[<- g,whole,this]
  | succ k B =>
   intro i a G g f j;refine dU ?_;rw[U0];refine fK (by omega) ?_;have N:IntKind.i64.wrap ((((vk n).size:Nat):Int)-1)=(((m-1:Nat)):Int):=by rw[Hr,q,wrap_eq (by omega) (by omega)];omega
   have M:IntKind.i64.wrap ((((m-1:Nat)):Int)-(i:Int))=(k:Int):=by rw[wrap_eq (by omega) (by omega)];omega
   have K:IntKind.i64.wrap ((k:Int).tdiv 8)=((k / 8:Nat):Int):=by rw[Int.tdiv_eq_ediv_of_nonneg (by omega),wrap_eq (by omega) (by omega)];omega
   have J:IntKind.i64.wrap ((k:Int).tmod 8*8)=((k%8*8:Nat):Int):=by rw[Int.tmod_eq_emod_of_nonneg (by omega),wrap_eq (by omega) (by omega)];omega
   have I:IntKind.i64.wrap ((i:Int)+1)=((i+1:Nat):Int):=by rw[wrap_eq (by omega) (by omega)];omega
   have u:(leI (0:Int) ((k / 8:Nat):Int)&&cu ((k / 8:Nat):Int) (((m+7) / 8:Nat):Int))=true:=by simp;omega
   have t:(leI (0:Int) (i:Int)&&cu (i:Int) (((vk n).size:Nat):Int))=true:=by rw[Hr,q];simp;omega
   have z:(!cu ((k%8*8:Nat):Int) 0)=true:=asa _;have A:min (k%8*8) IntKind.u64.bits=k%8*8:=Nat.min_eq_left (show k%8*8<=64 by omega);have l:=adD n i (by omega);rw[q,show m-1-i=k by omega]at l
   have hb256:n / 256^k%256<256:=qNm _ (by decide);have o:n / 256^k%256*2^(k%8*8)<2^(k%8*8+8):=by rw[Nat.add_comm,Nat.pow_add];exact Nat.mul_lt_mul_of_pos_right hb256 (Nat.pow_pos (by decide))
   have p:n / 256^k%256*2^(k%8*8)<bH:=Nat.lt_of_lt_of_le o (Nat.pow_le_pow_right (n:=2) (by decide) (show k%8*8+8<=64 by omega));have D:a.getD (k / 8) 0<bH:=jy f (by decide) _;obtain⟨y,w⟩:=orL o (by omega) D (ais f j);simp only[N,M,K,J,I];rw[u,t,z,qCt,qCt,qCt,qCt];simp only[qIt,qNz,iy,A,l];rw[pF (Nat.lt_trans hb256 (by decide)),aib,Nat.mod_eq_of_lt p,y,lZ];refine B (i+1) _ (by omega) (by simpa using g) (aez f w _) ?_;have v:=Ux bH (a.getD (k / 8) 0+n / 256^k%256*2^(k%8*8)) a (k / 8) (by omega);rw[air];rw[j]at v;have e:bH^(k / 8)*(n / 256^k%256*2^(k%8*8))=256^k*(n / 256^k%256):=by rw[show bH^(k / 8)=256^(8*(k / 8)) by rw[Nat.pow_mul],show 2^(k%8*8)=256^(k%8) by rw[Nat.mul_comm,Nat.pow_mul],Nat.mul_comm (n / 256^k%256),<- Nat.mul_assoc,<- Nat.pow_add,show 8*(k / 8)+k%8=k by omega]
   grind
theorem asb(n:Nat)(a:(bG 256 n).length<=1000000):run tab X 111 [.p (.str (vk n))] []=some ([.fresh false kU (nU n)],[]):=
 aY (hX _ rfl) (by
  have d:IntKind.i64.wrap (((bG 256 n).length:Int)+7)=(((bG 256 n).length+7:Nat):Int):=by rw[wrap_eq (by omega) (by omega)];omega
  have c:IntKind.i64.wrap ((((bG 256 n).length+7:Nat):Int).tdiv 8)=((((bG 256 n).length+7) / 8:Nat):Int):=by rw[Int.tdiv_eq_ediv_of_nonneg (by omega),wrap_eq (by omega) (by omega)];omega
  have b:(leI (0:Int) ((((bG 256 n).length+7) / 8:Nat):Int)&&(leI ((((bG 256 n).length+7) / 8:Nat):Int) ((((bG 256 n).length+7) / 8:Nat):Int)&&leI ((((bG 256 n).length+7) / 8:Nat):Int) (2147483648:Int)))=true:=by simp;omega
  rw[ata,Hr];simp only[d,c];rw[b,qCt,qIt,lI];refine axX X hX n _ rfl a (bG 256 n).length 0 _ (by omega) (by simp) (PK (by decide) _) ?_;rw[F7,Nat.div_eq_of_lt (xY (by decide)),Nat.mul_zero])
end
end
section
theorem Pm(l:List Nat):bytesOf (bI .u8 l)=⟨(l.map UInt8.ofNat).toArray⟩:=by rw[bytesOf,bI,List.map_map];rfl
theorem XO(n:Nat):(bG 256 n).length=(bl n+7) / 8:=agA n
def eW(z:Int):PV:=.agg [.bool (decide (z<0)),.str (vk z.natAbs)]
theorem JJ:vk 0=⟨#[]⟩:=by rw[vk,VA,gW];rfl
theorem amk:eW 0=.agg [.bool false,.str ⟨#[]⟩]:=by show PV.agg [.bool (decide ((0:Int)<0)),.str (vk 0)]=_;rw[JJ];rfl
theorem Nb.adE(x:Nb):x.z.natAbs=x.2:=by grind[Nb.z]
theorem aml{n k:Nat}(h:(bG bH n).length<=k):bl n<=64*k:=JC (by rw[Nat.pow_mul];exact IU h)
section
variable (X:Ext) (hX:Mine X) (hB:Bits X)
include hX
theorem axY(n m:Nat)(e:(bG 256 n).length=m)(A:m<=1000000):∀(k i:Nat),i+k=m ->
    L tab (run tab X) 154 [] [.lp [1,1,0,1,0]] (Hy (nU n) 0 m m i (bI .u8 ((VA n).take i++List.replicate (m-i) 0)))=some ([.p (.str (vk n))],[]):=by
  have _:=hX;have t:(VA n).length=m:=by rw[abh,e]
  intro k;induction k with
  | zero =>
   intro i s;have c:i=m:=by omega
   subst c;refine dU ?_;rw[U2];refine dR (by omega) ?_;rw[Nat.sub_self,List.replicate_zero,List.append_nil,List.take_of_length_le (l:=VA n) (by omega),qLy,List.take_of_length_le (l:=bI .u8 (VA n)) (by rw[dI];omega),Pm];rfl
  | succ k z =>
   intro i s;refine dU ?_;rw[U2];refine fK (by omega) ?_;have y:IntKind.i64.wrap ((m:Int)-1)=(((m-1:Nat)):Int):=by rw[wrap_eq (by omega) (by omega)];omega
   have x:IntKind.i64.wrap ((((m-1:Nat)):Int)-(i:Int))=(k:Int):=by rw[wrap_eq (by omega) (by omega)];omega
   have w:IntKind.i64.wrap ((k:Int).tdiv 8)=((k / 8:Nat):Int):=by rw[Int.tdiv_eq_ediv_of_nonneg (by omega),wrap_eq (by omega) (by omega)];omega
   have v:IntKind.i64.wrap ((k:Int).tmod 8*8)=((k%8*8:Nat):Int):=by rw[Int.tmod_eq_emod_of_nonneg (by omega),wrap_eq (by omega) (by omega)];omega
   have u:IntKind.i64.wrap ((i:Int)+1)=((i+1:Nat):Int):=by rw[wrap_eq (by omega) (by omega)];omega
   have r:k / 8<(bG bH n).length:=by
    rcases Nat.lt_or_ge (k / 8) (bG bH n).length with h | h
    . exact h
    . exfalso;have f:=IU h;rw[show bH^(k / 8)=256^(8*(k / 8)) by rw[Nat.pow_mul]]at f;have C:=sQ (b:=256) (by decide) f;omega
   have o:(leI (0:Int) ((k / 8:Nat):Int)&&cu ((k / 8:Nat):Int) (((nU n).length:Nat):Int))=true:=by rw[dI];simp;omega
   have j:(leI (0:Int) (i:Int)&&cu (i:Int) (m:Int))=true:=by simp;omega
   have q:min (k%8*8) IntKind.u64.bits=k%8*8:=Nat.min_eq_left (show k%8*8<=64 by omega);have d:=adC n i (by omega);rw[e,show m-1-i=k by omega]at d
   have g:IntKind.u8.wrap (((bG bH n).getD (k / 8) 0 / 2^(k%8*8):Nat):Int)=((n / 256^k%256:Nat):Int):=by rw[<- agB,Qv b64];rfl
   simp only[y,x,w,v,u];rw[o,asa,j,qCt,qCt,qCt];simp only[qIt,qNz,iy,q,TN,g];have a:((VA n).take i++List.replicate (m-i) 0).set i (n / 256^k%256)=(VA n).take (i+1)++List.replicate (m-(i+1)) 0:=by
    rw[List.take_succ_eq_append_getElem (by omega),show m-i=(m-(i+1))+1 by omega];have B:((VA n).take i).length=i:=by simp;omega
    have:=set_mid ((VA n).take i) (m-(i+1)) (n / 256^k%256);simp_all
   rw[lZ,a];grind
include hB
theorem c154(n:Nat)(b:(bG bH n).length<=100000):run tab X 154 [.p (.list false kU (nU n))] []=some ([.p (.str (vk n))],[]):=
 aY (hX _ rfl) (by
  have c:bl n<=64*100000:=aml b;have a:=XO n;have f:IntKind.i64.wrap ((bl n:Int)+7)=((bl n+7:Nat):Int):=by rw[wrap_eq (by omega) (by omega)];omega
  have e:IntKind.i64.wrap (((bl n+7:Nat):Int).tdiv 8)=((bG 256 n).length:Int):=by rw[Int.tdiv_eq_ediv_of_nonneg (by omega),wrap_eq (by omega) (by omega)];omega
  have d:(leI (0:Int) ((bG 256 n).length:Int)&&(leI ((bG 256 n).length:Int) ((bG 256 n).length:Int)&&leI ((bG 256 n).length:Int) (2147483648:Int)))=true:=by simp;omega
  rw[e154,aoa X hX hB _ (Ho n) (KO n) (by omega),dval];simp only[qOb,qLh,bV,toInt_int,f,e];rw[d,qCt,qIt,lI];exact axY X hX n _ rfl (by omega) (bG 256 n).length 0 (by omega))
theorem axZ(x:Nb)(c:x.le 100000):run tab X 114 [.p (eN x)] []=some (if 65536<bl x.2 then [.p (eW 0),Ab 7]else [.p (eW x.z),Ab 0],[]):=
 aY (hX _ rfl) (by
  have a:(bG bH x.2).length<=100000:=c;rw[eN,atd,aoa X hX hB _ (Ho _) (KO _) (by omega),dval];simp only[qOb,qLh,bV,toInt_int,dI];by_cases h:65536<bl x.2
  . grind[amk]
  . rw[if_neg h];refine dR (by omega) ?_;rw[c154 X hX hB _ a];simp only[qOb,qLh,bV,ah5];rw[eW,Nb.adE];have b:decide (x.z<0)=(x.1&&decide (0<x.2)):=by grind[Nb.z]
    rw[b];by_cases hp:0<x.2
    . have:=KL hp;grind
    grind[gW])
end
end
section
theorem mZ(x:Nb):PV.agg [.bool (((eN x).cell 0).toBool),.list false kU (((eN x).cell 1).toList)]=eN x:=rfl
theorem mX(z:Int):PV.agg [.bool (((eW z).cell 0).toBool),.str (((eW z).cell 1).toStr)]=eW z:=rfl
def okW(z:Int):Prop:=bl z.natAbs<=65536
instance (z:Int):Decidable (okW z):=inferInstanceAs (Decidable (_<=_))
def KR(z:Int):Nb:=(decide (z<0),z.natAbs)
theorem vZ(z:Int):(KR z).z=z:=by
 unfold KR Nb.z;by_cases h:z<0
 . simp[h];omega
 . simp[h];omega
theorem RS(n:Nat):vk n=⟨#[]⟩↔n=0:=by
 constructor
 . intro h;have a:=Hr n;rw[h]at a;exact(qZ (b:=256) (by decide)).1 (List.length_eq_zero_iff.1 a.symm)
 . intro h;rw[h,JJ]
theorem aic{n:Nat}(h:0<n):((vk n).data.getD 0 0).toNat≠0:=by
 have a:bG 256 n≠[]:=λd=>by have:=(qZ (b:=256) (by decide)).1 d;omega
 have c:0<(bG 256 n).length:=List.length_pos_iff.2 a;rw[adD n 0 c,Nat.sub_zero,<- Qv (by decide)];exact Nat.ne_of_gt (last_pos (yY (by decide) n) a)
theorem agu{z:Int}(h:okW z):(bG 256 z.natAbs).length<=8192:=by rw[XO];unfold okW at h;omega
theorem jP{z:Int}(h:okW z):(KR z).le 1024:=by
 have a:∀ k n:Nat,bl n<=64*k->n<bH^k:=λk n h=>by have b:2^bl n<=2^(64*k):=Nat.pow_le_pow_right (by decide) h;rw[Nat.pow_mul]at b;exact Nat.lt_of_lt_of_le (MR n) b
 exact lF (a 1024 _ h)
theorem akI:okW 0:=by show bl 0<=65536;rw[agv];omega
section
variable (X:Ext) (hX:Mine X) (hB:Bits X)
include hX
theorem amm(z:Int):run tab X 110 [.p (eW z)] []=some ([Ac (decide (okW z))],[]):=
 aY (hX _ rfl) (by
  rw[eW,as9,akz];by_cases h:z.natAbs=0
  . have c:z=0:=by omega
    subst c;refine fK ((RS _).2 h) ?_;rw[decide_eq_true akI];rfl
  . refine dR (λa=>h ((RS _).1 a)) ?_;have d:0<(bG 256 z.natAbs).length:=List.length_pos_iff.2 λa=>h ((qZ (b:=256) (by decide)).1 a);rw[show cu 0 ((vk z.natAbs).size:Int)=true by rw[Hr];simp;exact d,qCt];have f:=aic (Nat.pos_of_ne_zero h);rw[show((((vk z.natAbs).data.getD 0 0).toNat:Int) != 0)=true by simp;intro a;apply f;simpa using a,qCt,Hr,XO];have e:leI (((bl z.natAbs+7) / 8:Nat):Int) 8192=decide (okW z):=decide_eq_decide.2 (by unfold okW;omega);rw[e])
theorem aie(a b:Int):run tab X 108 [.p (eW a),.p (eW b)] []=some ([Ac (decide (okW a)&&decide (okW b))],[]):=
 aY (hX _ rfl) (by
  have d:=amm X hX a;have c:=amm X hX b;rw[eW]at d c;rw[eW,eW,e108,d];simp only[qOb,qLh,bV,bf];by_cases h:okW a
  . refine fK h ?_;rw[c];simp only[qOb,qLh,bV,bf,decide_eq_true h,Bool.true_and]
  . refine dR h ?_;rw[decide_eq_false h];rfl)
theorem c139(z:Int)(h:okW z):run tab X 139 [.p (eW z)] []=some ([.p (eN (KR z))],[]):=
 aY (hX _ rfl) (by rw[eW,atj,asb X hX _ (Nat.le_trans (agu h) (by omega))];simp only[qOb,qLh,dJ,qLy,List.take_length];rfl)
theorem c109(z:Int)(h:okW z):run tab X 109 [.p (eW z)] []=some ([Ab z.sign],[]):=
 aY (hX _ rfl) (by have b:=amm X hX z;have a:=c139 X hX z h;rw[eW]at b a;rw[eW,e109,b];simp only[qOb,qLh,bV,bf,decide_eq_true h];rw[a];simp only[qBt,qCf,qOb,qLh,bV,mZ,c119 X hX,toInt_int];rw[akH,vZ])
theorem auX(a b:Int)(d:okW a)(c:okW b):run tab X 135 [.p (eW a),.p (eW b)] []=some ([Ab (a-b).sign],[]):=
 aY (hX _ rfl) (by have g:=aie X hX a b;have f:=c139 X hX a d;have e:=c139 X hX b c;rw[eW]at f e;rw[eW,eW]at g;rw[eW,eW,ati,g];simp only[qOb,qLh,bV,bf,decide_eq_true d,decide_eq_true c,Bool.and_true,qBt,qCf];rw[f];simp only[qOb,qLh,bV];rw[e];simp only[qOb,qLh,bV,mZ,an9 X hX];rw[c117 X hX _ _ (Nat.le_trans (jP d) (show 1024<=1000000 by omega)) (show(afg (KR b)).le 1000000 from Nat.le_trans (jP c) (show 1024<=1000000 by omega))];simp only[qOb,qLh,bV,mZ,c119 X hX,toInt_int];rw[akH,XM,afh,vZ,vZ,Int.sub_eq_add_neg])
include hB
def JE(z:Int):List AV:=if okW z then [.p (eW z),Ab 0]else [.p (eW 0),Ab 7]
theorem Zn(x:Nb)(a:x.le 100000):run tab X 114 [.p (eN x)] []=some (JE x.z,[]):=by
 rw[axZ X hX hB x a,JE];have e:bl x.z.natAbs=bl x.2:=by rw[Nb.adE]
 by_cases h:okW x.z
 . rw[if_pos h,if_neg (by unfold okW at h;omega)]
 . rw[if_neg h,if_pos (by unfold okW at h;omega)]
end
end
end Go.Skm.Fen
