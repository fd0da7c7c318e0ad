import Derived.Test.YtoheflpoanjihaaGreatW8
set_option linter.all false
namespace Go.Skm.Fen
open Go Go.Skm Go.Skm.Dig
section
theorem LX(R:List Nat)(j m i:Nat)(h:i<m):((R.drop j).take m).getD i 0=R.getD (j+i) 0:=by grind
theorem TL{R:List Nat}(a:ok aX R)(j m:Nat):ok aX ((R.drop j).take m):=zi (O4 a j) m
theorem last_pos{N:List Nat}(a:Dig.tight N)(h:N≠[]):0<N.getD (N.length-1) 0:=by
 have c:0<N.length:=List.length_pos_iff.2 h;have b:N.getLast?=some (N.getD (N.length-1) 0):=by grind
 exact Nat.pos_of_ne_zero (a _ b)
section
variable (X:Ext) (hX:Mine X) (hB:Bits X)
include hX hB
theorem Gw(g:Nat)(a:g<aX):(run tab X) 113 [.slice 100000 1 0 1] [.arr false kU [.int .u64 (g:Int)]]=some ([.slice 100000 1 0 (trim (([g].drop 0).take 1)).length],[.arr false kU (aY .u64 [g])]):=by have _:=hB;have _:=a;exact JA X hX [g] (by simp) 0 1 (by simp)
theorem O5(D:List Nat)(f:ok aX D)(e:D.length<=10000000)(g:Nat)(c:g<aX):((run tab X) 113 [.slice 100000 1 0 1] [.arr false kU [.int .u64 (g:Int)]]).bind (λa=>(run tab X) 173 [.p (.list false kU (aY .u64 D)),.p (.list false kU ((((a.2.headD (.box [])).xs).drop ((a.1.headD .undef).sOff)).take ((a.1.headD .undef).sLen)))] [])=some ([.fresh false kU (aY .u64 (aW aX (val aX D*g)))],[]):=by
 rw[Gw X hX hB g c];simp only[qOb,qLh,xs_arr,sOff_slice,sLen_slice];have b:ok aX [g]:=λd hd=>by rw[List.mem_singleton.1 hd];exact c
 rw[trimmed [g] b,show([g].drop 0).take 1=[g] from rfl,val_one,c173 X hX hB _ _ f (wL _) ?_,dval];have:(aW aX g).length<=1:=iE (by simpa using c);omega
theorem adv(s:Nat)(W:s<64)(D:List Nat)(n k V:Nat)(hn:n<=90000)(y:ok aX D)(t:Dig.tight D)(b:D.length=k)(hk:0<k)(Z:k<=n):∀(c:Nat) (R e:List Nat),c+e.length=n+1-k->R.length=n+1->ok aX R->ok aX e ->
    V=val aX R+aX^c*(val aX e*val aX D)->val aX R<aX^c*val aX D ->
    L tab (run tab X) 186 [] [.lp [1,1,1,1,1,1,1,1,0,1,0]] (jG s 0 k 0 (n+1) k 0 (n+1-k) ((c:Int)-1) (aY .u64 D) (aY .u64 R) (aY .u64 (List.replicate c 0++e)))=some ([.fresh false kU (aY .u64 (aW aX (V / val aX D))),.p (.list false kU (aY .u64 (aW aX (V%val aX D / 2^s))))],[]):=by
  have m:D≠[]:=by intro h;rw[h]at b;simp at b;omega
  have E:0<D.getD (k-1) 0:=by rw[<- b];exact last_pos t m
  have z:0<val aX D:=Eb b64 t m;have o:val aX D<=aX^k:=by rw[<- b];exact Nat.le_of_lt (kW y)
  have F:D.getD (k-1) 0<aX:=fK y (by decide) _;intro c;induction c with
  | zero =>
   intro R e Y a f G v d;refine L_of ?_;rw[vM];refine condNP (by simp) ?_;rw[Nat.pow_zero,Nat.one_mul]at d v;have e1:V / val aX D=val aX e:=by rw[v,Nat.add_comm,Nat.mul_comm,Nat.mul_add_div z,Nat.div_eq_of_lt d,Nat.add_zero]
   have e2:V%val aX D=val aX R:=by rw[v,Nat.add_comm,Nat.mul_comm,Nat.mul_add_mod,Nat.mod_eq_of_lt d]
   rw[e1,e2,List.replicate_zero,List.nil_append,JA X hX e (by omega) 0 _ (by omega)];simp only[qOb,qLh,xs_arr,sOff_slice,sLen_slice];rw[JA X hX R (by omega) 0 _ (by omega)];simp only[qOb,qLh,xs_arr,sOff_slice,sLen_slice];have hRl:(aW aX (val aX R)).length<=n+1:=iE (by rw[<- a];exact kW f);rw[trimmed e G,trimmed R f,qLy,qLy,<- a,List.take_length,show R.length-k=e.length by omega,List.take_length,adM X hX hB _ s W (wL _) (by omega),dval];simp
  | succ j T =>
   intro R e Y a f G v d;have i:j+k<=n:=by omega
   obtain⟨w1,A⟩:=NS (show 0<aX by decide) a i d o;have u:((R.drop j).take (k+1)).length=k+1:=by simp;omega
   obtain⟨M,g⟩:=QH (show 0<aX by decide) (TL f j (k+1)) u b hk E A;rw[LX R j (k+1) k (by omega),LX R j (k+1) (k-1) (by omega)]at M g;have B:val aX ((R.drop j).take (k+1))<aX^(k+1):=by have:=kW (TL f j (k+1));rwa[u]at this
   have l:val aX ((R.drop j).take (k+1))-val aX D*(val aX ((R.drop j).take (k+1)) / val aX D)<aX^(k+1):=Nat.lt_of_le_of_lt (Nat.sub_le _ _) B;obtain⟨O,N⟩:=O7 (L:=aW aX (val aX ((R.drop j).take (k+1))-val aX D*(val aX ((R.drop j).take (k+1)) / val aX D))) (show 0<aX by decide) f a i d o z (iE l) rfl (dval _)
   have K:=T (xR R j k (aW aX (val aX ((R.drop j).take (k+1))-val aX D*(val aX ((R.drop j).take (k+1)) / val aX D)))) ((val aX ((R.drop j).take (k+1)) / val aX D)::e) (by simp;omega) (Iu a i (iE l)) (QI (by decide) f (wL _))
    (oQ.2 ⟨by rw[Nat.div_lt_iff_lt_mul z];exact A,G⟩) (by rw[v,O];show _=_+aX^j*((_+aX*val aX e)*val aX D);grind) N
   have inner:=aao X hX hB s D R (List.replicate (j+1) 0++e) n j k (n+1-k) (by omega) y t b z f a i (by omega) (by simp;omega) A _ (by rw[set_last];exact K) _ M g;refine L_of ?_;rw[show((j+1:Nat):Int)-1=(j:Int) by omega,vM];refine condP (by omega) ?_;have a1:IntKind.i64.wrap ((j:Int)+(k:Int))=((j+k:Nat):Int):=by rw[wrap_eq (by omega) (by omega)];omega
   have a2:IntKind.i64.wrap ((k:Int)-1)=((k-1:Nat):Int):=by rw[wrap_eq (by omega) (by omega)];omega
   have a3:IntKind.i64.wrap (((j+k:Nat):Int)-1)=((j+(k-1):Nat):Int):=by rw[wrap_eq (by omega) (by omega)];omega
   have a4:IntKind.i64.wrap (((j+k:Nat):Int)+1)=((j+k+1:Nat):Int):=by rw[wrap_eq (by omega) (by omega)];omega
   have S:(leI (0:Int) ((j+k:Nat):Int)&&ltI ((j+k:Nat):Int) ((n+1:Nat):Int))=true:=by simp;omega
   have Q:(leI (0:Int) ((k-1:Nat):Int)&&ltI ((k-1:Nat):Int) (k:Int))=true:=by simp;omega
   have P:(leI (0:Int) ((j+(k-1):Nat):Int)&&ltI ((j+(k-1):Nat):Int) ((n+1:Nat):Int))=true:=by simp;omega
   have I:(leI (0:Int) (j:Int)&&(leI (j:Int) ((j+k+1:Nat):Int)&&(leI ((j+k+1:Nat):Int) ((n+1:Nat):Int)&&leI ((n+1:Nat):Int) ((n+1:Nat):Int))))=true:=by simp;omega
   have H:((j+k+1:Nat):Int)-(j:Int)=((k+1:Nat):Int):=by omega
   have x:((aY .u64 D).drop 0).take k=aY .u64 D:=by rw[<- b];exact whole D
   simp only[a1,a2,a3,a4];rw[S,Q,qCt,qCt];simp only[qIt,dK,qNz];have C:R.getD (j+(k-1)) 0<aX:=fK f (by decide) _;have U:R.getD (j+k) 0<aX:=fK f (by decide) _;by_cases J:((R.getD (j+k) 0:Nat):Int)<((D.getD (k-1) 0:Nat):Int)
   . refine condP J ?_;have r:R.getD (j+k) 0<D.getD (k-1) 0:=by omega
     have q:(R.getD (j+k) 0*aX+R.getD (j+(k-1)) 0) / D.getD (k-1) 0=guess aX (R.getD (j+k) 0) (R.getD (j+(k-1)) 0) (D.getD (k-1) 0):=by rw[guess,if_pos r]
     rw[qCt,P,qCt,qCt,hB.w.div _ _ _ r C F,q];revert inner g;generalize guess aX (R.getD (j+k) 0) (R.getD (j+(k-1)) 0) (D.getD (k-1) 0)=gg;intro g inner;simp only[qOb,qLh,pv_p,toInt_int,I,qCt,x,H,qIt];have hp:=O5 X hX hB D y (by omega) _ g;rw[Gw X hX hB _ g]at hp ⊢;simp only[qOb,qLh,xs_arr,sOff_slice,sLen_slice]at hp ⊢;rw[hp];simp only[qOb,qLh,freshList_fresh,bG];exact inner
   . refine condNP J ?_;have r:¬ R.getD (j+k) 0<D.getD (k-1) 0:=by omega
     have q:(18446744073709551615:Int)=((guess aX (R.getD (j+k) 0) (R.getD (j+(k-1)) 0) (D.getD (k-1) 0):Nat):Int):=by grind[guess]
     rw[q];revert inner g;generalize guess aX (R.getD (j+k) 0) (R.getD (j+(k-1)) 0) (D.getD (k-1) 0)=gg;intro g inner;simp only[I,qCt,x,H,qIt];have hp:=O5 X hX hB D y (by omega) _ g;rw[Gw X hX hB _ g]at hp ⊢;simp only[qOb,qLh,xs_arr,sOff_slice,sLen_slice]at hp ⊢;rw[hp];simp only[qOb,qLh,freshList_fresh,bG];exact inner
end
end
section
variable {k n y:Nat}
abbrev nU(n:Nat):List PV:=aY .u64 (aW aX n)
theorem xH(h:(aW aX n).length<=k):n<aX^k:=Nat.lt_of_lt_of_le (oU b64) (Nat.pow_le_pow_right (by decide) h)
theorem qB{a b:Nat}(h:a<=b):(aW aX a).length<=(aW aX b).length:=iE (Nat.lt_of_le_of_lt h (oU b64))
theorem yH(h:0<n):0<(aW aX n).length:=by
 rcases Nat.eq_zero_or_pos (aW aX n).length with a | a
 . have:=(kP b64).1 (List.length_eq_zero_iff.1 a);omega
 . exact a
theorem LP(h:(aW aX y).length=1):(aW aX y).getD 0 0=y:=by have b:=dval y;revert h b;generalize aW aX y=l;intro h b;obtain⟨a,rfl⟩:=List.length_eq_one_iff.1 h;grind[val_one]
theorem Tn{s:Nat}(x:0<y)(i:(aW aX y).length=k)(g:s=64-bl ((aW aX y).getD (k-1) 0)) :
    s<64/\(aW aX (y*2^s)).length=k/\aX^(k-1)*2^63<=y*2^s/\y*2^s<aX^k:=by
  have p:0<k:=by rw[<- i];exact yH x
  have m:aW aX y≠[]:=by intro h;rw[h]at i;simp at i;omega
  have a:0<(aW aX y).getD (k-1) 0:=by rw[<- i];exact last_pos (yI y) m
  have j:(aW aX y).getD (k-1) 0<aX:=fK (wL y) (by decide) _;have f:=zn aX (aW aX y) (k-1) (by omega);rw[List.drop_eq_nil_of_le (show(aW aX y).length<=k-1+1 by omega),show val aX []=0 from rfl,Nat.mul_zero,Nat.add_zero,dval]at f;have c:=kW (zi (wL y) (k-1));rw[List.length_take,Nat.min_eq_left (by omega)]at c;have b1:=zF ((aW aX y).getD (k-1) 0);have u:=OZ a;have w:=JB a;have v:=LQ j;revert g f b1 u w v;generalize (aW aX y).getD (k-1) 0=t;generalize bl t=b;intro g f b1 u w v;have l:s<64:=by omega
  have r:2^(b-1)*2^s=2^63:=by rw[<- Nat.pow_add,g,show b-1+(64-b)=63 by omega]
  have q:2^b*2^s=aX:=by rw[<- Nat.pow_add,g,show b+(64-b)=64 by omega]
  have o:aX^(k-1)*2^63<=y*2^s:=by rw[<- r,<- Nat.mul_assoc];refine Nat.mul_le_mul_right _ ?_;rw[f];exact Nat.le_trans (Nat.mul_le_mul_left _ u) (Nat.le_add_left _ _)
  have d:y*2^s<aX^k:=by
   have e:aX^k=aX^(k-1)*2^b*2^s:=by rw[Nat.mul_assoc,q,<- Nat.pow_succ,Nat.succ_eq_add_one,Nat.sub_add_cancel p]
   rw[e];refine Nat.mul_lt_mul_of_pos_right ?_ (Nat.pow_pos (by decide));have:=Nat.mul_le_mul_left (aX^(k-1)) b1;grind
  refine⟨l,Nat.le_antisymm (iE d) ?_,o,d⟩;rcases Nat.lt_or_ge (aW aX (y*2^s)).length k with h | h
  . exfalso;have z:y*2^s<aX^(k-1):=xH (by omega);omega
  . exact h
theorem NJ(L:List Nat)(n:Nat)(h:L.length<=n):patch (aY .u64 (List.replicate n 0)) 0 ((((aY .u64 L).drop 0).take (aY .u64 L).length).take (Nat.min (aY .u64 L).length n))=aY .u64 (L++List.replicate (n-L.length) 0):=by rw[qLy,List.take_length,bG,List.take_of_length_le (by rw[bG];exact Nat.le_min.2 ⟨qNr _,h⟩),Aa,List.take_zero,List.nil_append,qNz,List.drop_replicate]
section
variable (X:Ext) (hX:Mine X) (hB:Bits X)
include hX hB
theorem Z9(x y:Nat)(j:0<y)(J:(aW aX x).length<=90000)(C:(aW aX y).length<=90000):run tab X 186 [.p (.list false kU (nU x)),.p (.list false kU (nU y))] []=some ([.fresh false kU (nU (x / y)),.p (.list false kU (nU (x%y)))],[]):=
 run_of (hX _ rfl) (by
  have c:0<(aW aX y).length:=yH j;have q:(aW aX y).getD ((aW aX y).length-1) 0<aX:=fK (wL y) (by decide) _;rw[abk,c156 X hX _ _ (wL x) (wL y) (by omega) (by omega)];simp only[qOb,qLh,pv_p,toInt_int,bG];by_cases b:x<y
  . refine condP (by rw[uI];exact b) ?_;rw[Nat.div_eq_of_lt b,Nat.mod_eq_of_lt b,show nU 0=[] by rw[nU,dF];rfl]
  . refine condNP (by rw[uI];exact b) ?_;by_cases w:(aW aX y).length=1
    . rw[w];refine condP (by omega) ?_;have u:=LP w;have g:y<aX:=by rw[<- u];exact fK (wL y) (by decide) 0
      rw[show ltI 0 ((1:Nat):Int)=true from rfl,qCt,dK,u,adu X hX hB _ y (wL x) j g (by omega),dval];simp only[qOb,qLh,List.tail_cons,pv_p,toInt_int,freshList_fresh];have v:x%y<aX:=Nat.lt_trans (qNm _ j) g;rw[Gw X hX hB _ v];simp only[qOb,qLh,xs_arr,sOff_slice,sLen_slice];rw[trimmed [x%y] (λd hd=>by rw[List.mem_singleton.1 hd];exact v),qLy,List.take_length,show([x%y].drop 0).take 1=[x%y] from rfl,val_one]
    . refine condNP (by omega) ?_;obtain⟨f,s2,l,t⟩:=Tn j rfl rfl;have e:(aW aX y).length<=(aW aX x).length:=qB (Nat.le_of_not_lt b);have o:aW aX x≠[]:=by intro h;rw[h]at e;exact absurd (Nat.lt_of_lt_of_le c e) (Nat.lt_irrefl _)
      have m:aW aX y≠[]:=by intro h;rw[h]at c;simp at c
      have I:IntKind.i64.wrap (((aW aX y).length:Int)-1)=(((aW aX y).length-1:Nat):Int):=by rw[wrap_eq (by omega) (by omega)];omega
      have H:IntKind.i64.wrap (((aW aX x).length:Int)+1)=(((aW aX x).length+1:Nat):Int):=by rw[wrap_eq (by omega) (by omega)];omega
      have G:IntKind.i64.wrap ((((aW aX x).length+1:Nat):Int)-((aW aX y).length:Int))=(((aW aX x).length+1-(aW aX y).length:Nat):Int):=by rw[wrap_eq (by omega) (by omega)];omega
      have F:IntKind.i64.wrap ((((aW aX x).length+1-(aW aX y).length:Nat):Int)-1)=(((aW aX x).length+1-(aW aX y).length:Nat):Int)-1:=wrap_eq (by omega) (by omega);have B:(leI (0:Int) (((aW aX y).length-1:Nat):Int)&&ltI (((aW aX y).length-1:Nat):Int) (((aW aX y).length:Nat):Int))=true:=by simp;omega
      have A:(leI (0:Int) (((aW aX x).length+1:Nat):Int)&&(leI (((aW aX x).length+1:Nat):Int) (((aW aX x).length+1:Nat):Int)&&leI (((aW aX x).length+1:Nat):Int) (2147483648:Int)))=true:=by simp;omega
      have z:(leI (0:Int) (((aW aX x).length+1-(aW aX y).length:Nat):Int)&&(leI (((aW aX x).length+1-(aW aX y).length:Nat):Int) (((aW aX x).length+1-(aW aX y).length:Nat):Int)&&leI (((aW aX x).length+1-(aW aX y).length:Nat):Int) (2147483648:Int)))=true:=by simp;omega
      rw[I,H,B,qCt];simp only[qIt,dK];rw[WH X hX _ q];simp only[qOb,qLh,pv_p,toInt_int];revert f s2 l t;generalize 64-bl ((aW aX y).getD ((aW aX y).length-1) 0)=s;intro f s2 l t;rw[aac X hX hB _ s f (wL y) m (by omega),dval];simp only[qOb,qLh,freshList_fresh,bG];rw[A,qCt,aac X hX hB _ s f (wL x) o (by omega),dval];simp only[qOb,qLh,freshList_fresh];have r:(aW aX (x*2^s)).length<=(aW aX x).length+1:=by refine iE ?_;rw[Nat.pow_succ];exact Nat.mul_lt_mul'' (oU b64) (Nat.pow_lt_pow_right (a:=2) (by decide) f)
      rw[s2,G,z,qCt,qIt,F,iI,iI,NJ _ _ r];have i:x*2^s<aX^((aW aX x).length+1-(aW aX y).length)*(y*2^s):=by
       have E:x*2^s<aX^(aW aX x).length*2^63:=by refine Nat.lt_of_lt_of_le (Nat.mul_lt_mul_of_pos_right (oU b64 (n:=x)) (Nat.pow_pos (by decide))) (Nat.mul_le_mul_left _ (Nat.pow_le_pow_right (by decide) (by omega)))
       refine Nat.lt_of_lt_of_le E ?_;have D:aX^(aW aX x).length=aX^((aW aX x).length+1-(aW aX y).length)*aX^((aW aX y).length-1):=by rw[<- Nat.pow_add,show(aW aX x).length+1-(aW aX y).length+((aW aX y).length-1)=(aW aX x).length by omega]
       rw[D,Nat.mul_assoc];exact Nat.mul_le_mul_left _ l
      have:=adv X hX hB s f (aW aX (y*2^s)) (aW aX x).length (aW aX y).length (x*2^s) (by omega) (wL _) (yI _) s2 c e
       ((aW aX x).length+1-(aW aX y).length) (aW aX (x*2^s)++List.replicate ((aW aX x).length+1-(aW aX (x*2^s)).length) 0) [] (by simp) (by simp;omega)
       (iG.2 ⟨wL _,BI (by decide) _⟩) (pY _) (by rw[Ir,dval];simp[val]) (by rw[Ir,dval,dval];exact i)
      rw[List.append_nil,dval,Nat.mul_div_mul_right _ _ (Nat.pow_pos (by decide)),Nat.mul_mod_mul_right,Nat.mul_div_cancel _ (Nat.pow_pos (by decide))]at this;exact this)
end
end
section
abbrev Nb:=Bool × Nat
def eN(x:Nb):PV:=.agg [.bool x.1,.list false kU (nU x.2)]
def Nb.z(x:Nb):Int:=if x.1 then -(x.2:Int)else x.2
def Qw(x y:Nb):Nb:=if x.1=y.1 then(x.1,x.2+y.2)else if y.2<=x.2 then(x.1,x.2-y.2)else(y.1,y.2-x.2)
def yJ(x y:Nb):Nb:=(!(x.1==y.1),x.2*y.2)
def NK(x:Nb):Nb:=(!x.1,x.2)
def sgP(x:Nb):Int:=if x.2=0 then 0 else if x.1 then -1 else 1
def Nb.le(x:Nb)(k:Nat):Prop:=(aW aX x.2).length<=k
theorem Gx(x y:Nb):(Qw x y).z=x.z+y.z:=by grind[Qw,Nb.z]
theorem Ae(x y:Nb):(yJ x y).z=x.z*y.z:=by obtain⟨a,m⟩:=x;obtain⟨b,n⟩:=y;unfold yJ Nb.z;grind
theorem NM(x:Nb):(NK x).z=-x.z:=by grind[NK,Nb.z]
theorem Tt(x:Nb):sgP x=x.z.sign:=by obtain⟨a,m⟩:=x;unfold sgP Nb.z;grind
theorem JC{x y:Nb}{k:Nat}(b:x.le k)(a:y.le k):(Qw x y).le (k+1):=by have e:x.2<aX^k:=xH b;have d:y.2<aX^k:=xH a;have c:aX^(k+1)=aX^k*aX:=Nat.pow_succ ..;have h4:aX^k*2<=aX^k*aX:=Nat.mul_le_mul_left _ (by decide);refine iE ?_;grind[Qw]
theorem vg{x y:Nb}{k l:Nat}(b:x.le k)(a:y.le l):(yJ x y).le (k+l):=by refine iE ?_;rw[Nat.pow_add];exact Nat.mul_lt_mul'' (xH b) (xH a)
section
variable (X:Ext) (hX:Mine X) (hB:Bits X)
include hX
theorem WI(x:Nb):run tab X 118 [.p (eN x)] []=some ([.p (eN (NK x))],[]):=run_of (hX _ rfl) (by rw[eN,e118];rfl)
theorem c119(x:Nb):run tab X 119 [.p (eN x)] []=some ([Ab (sgP x)],[]):=
 run_of (hX _ rfl) (by
  rw[eN,e119,sgP];simp only[bG];by_cases h:x.2=0
  . grind[dF]
  . rw[if_neg h];have:=yH (Nat.pos_of_ne_zero h);grind)
theorem c117(x y:Nb)(e:x.le 1000000)(c:y.le 1000000):run tab X 117 [.p (eN x),.p (eN y)] []=some ([.p (eN (Qw x y))],[]):=
 run_of (hX _ rfl) (by
  have d:(aW aX x.2).length<=1000000:=e;have b:(aW aX y.2).length<=1000000:=c;rw[eN,eN,e117,Qw];by_cases h:x.1=y.1
  . rw[if_pos h,show(x.1==y.1)=true by simp[h],qCt,adw X hX _ _ (wL _) (wL _) (by omega) (by omega),dval,dval];simp only[qOb,qLh,freshList_fresh,qLy,List.take_length];rfl
  . rw[if_neg h,show(x.1==y.1)=false by simp[h],qCf,c156 X hX _ _ (wL _) (wL _) (by omega) (by omega)];simp only[qOb,qLh,pv_p,toInt_int];by_cases a:y.2<=x.2
    . rw[if_pos a];refine condP (Int.not_lt.1 λf=>absurd ((uI x.2 y.2).1 f) (by omega)) ?_;rw[c157 X hX _ _ (wL _) (wL _) (by omega) (qB a) (by rw[dval,dval];exact a),dval,dval];simp only[qOb,qLh,freshList_fresh,qLy,List.take_length];rfl
    . rw[if_neg a];refine condNP (by have:=(uI x.2 y.2).2 (by omega);omega) ?_;rw[c157 X hX _ _ (wL _) (wL _) (by omega) (qB (by omega)) (by rw[dval,dval];omega),dval,dval];simp only[qOb,qLh,freshList_fresh,qLy,List.take_length];rfl)
theorem c141(hB:Words X)(x y:Nb)(d:x.le 1000000)(b:y.le 1000000):run tab X 141 [.p (eN x),.p (eN y)] []=some ([.p (eN (yJ x y))],[]):=
 run_of (hX _ rfl) (by have c:(aW aX x.2).length<=1000000:=d;have a:(aW aX y.2).length<=1000000:=b;rw[eN,eN,aaW,c173 X hX hB _ _ (wL _) (wL _) (by omega),dval,dval];simp only[qOb,qLh,freshList_fresh,qLy,List.take_length];rfl)
include hB
theorem adx:∀(y x:Nat),(aW aX x).length<=90000->(aW aX y).length<=90000->L tab (run tab X) 171 [] [.lp [1,0,0]] (Aw (nU x) (nU y))=some ([.p (.list false kU (nU (Nat.gcd x y)))],[]):=by
 intro y;induction y using Nat.strongRecOn with
 | ind y b =>
  intro x c a;refine L_of ?_;rw[QX];simp only[bG];rcases Nat.eq_zero_or_pos y with h | h
  . grind[dF,Nat.gcd_zero_right]
  . have d:=yH h;refine condP (by omega) ?_;rw[Z9 X hX hB x y h c a];simp only[qOb,qLh,List.tail_cons,pv_p,toList_list];rw[b (x%y) (qNm _ h) y a (Nat.le_trans (qB (Nat.le_of_lt (qNm _ h))) a),Nat.gcd_comm x y,Nat.gcd_rec y x,Nat.gcd_comm y (x%y)]
theorem c171(x y:Nat)(b:(aW aX x).length<=90000)(a:(aW aX y).length<=90000):run tab X 171 [.p (.list false kU (nU x)),.p (.list false kU (nU y))] []=some ([.p (.list false kU (nU (Nat.gcd x y)))],[]):=
 run_of (hX _ rfl) (by rw[aa9];exact adx X hX hB y x b a)
theorem aae(x y:Nb)(c:x.le 90000)(b:y.le 90000)(hp:0<y.2)(hd:y.2 ∣ x.2):run tab X 172 [.p (eN x),.p (eN y)] []=some ([.p (eN (!(x.1==y.1),x.2 / y.2)),.p (eN (false,0))],[]):=
 run_of (hX _ rfl) (by
  rw[eN,eN,abb,Z9 X hX hB x.2 y.2 hp c b,Nat.mod_eq_zero_of_dvd hd];have a:nU 0=[]:=by rw[nU,dF];rfl
  rw[a];simp only[qOb,qLh,List.tail_cons,pv_p,toList_list,freshList_fresh,qLy,List.take_length];have e:some ([AV.p (PV.agg [PV.bool (!(x.1==y.1)),PV.list false kU (nU (x.2 / y.2))]),AV.p (PV.agg [PV.bool false,PV.list false kU []])],([]:List Blk))=some ([.p (eN (!(x.1==y.1),x.2 / y.2)),.p (eN (false,0))],[]):=by rw[eN,eN,a]
  grind)
end
end
end Go.Skm.Fen
namespace Go.Skm.Dig
theorem ED{b:Nat}:∀{l:List Nat},ok b l->∀ i,l.getD i 0=val b l / b^i%b
 |[],_,i=>by simp[val]
 | d::r,h,0=>by have hd:=h d List.mem_cons_self;show d=(d+b*val b r) / b^0%b;rw[Nat.pow_zero,Nat.div_one,Nat.add_mul_mod_self_left,Nat.mod_eq_of_lt hd]
 | d::r,h,i+1=>by have hd:=h d List.mem_cons_self;have a:=ED (λx c=>h x (List.mem_cons_of_mem _ c):ok b r) i;show r.getD i 0=(d+b*val b r) / b^(i+1)%b;rw[a,Nat.pow_succ',<- Nat.div_div_eq_div_mul,Nat.add_comm,Nat.mul_add_div (by omega),Nat.div_eq_of_lt hd,Nat.add_zero]
theorem BN{b:Nat}(a:2<=b)(n i:Nat):(aW b n).getD i 0=n / b^i%b:=by rw[ED (sF a n),lH a]
theorem QJ(l:List Nat)(i:Nat)(h:i<l.length):l.reverse.getD i 0=l.getD (l.length-1-i) 0:=by grind
theorem O8(n:Nat):(aW 256 n).length=((aW 2 n).length+7) / 8:=by
 rcases Nat.eq_zero_or_pos n with h | h
 . grind[dF]
 . have g:=oU (b:=2) (by decide) (n:=n);have f:=Af (b:=2) (by decide) h;have b1:=oU (b:=256) (by decide) (n:=n);have d:=Af (b:=256) (by decide) h;have e:∀ k,256^k=2^(8*k):=λk=>by rw[Nat.pow_mul]
   have j:0<(aW 2 n).length:=List.length_pos_iff.2 λc=>by have:=(kP (b:=2) (by decide)).1 c;omega
   have i:0<(aW 256 n).length:=List.length_pos_iff.2 λc=>by have:=(kP (b:=256) (by decide)).1 c;omega
   rw[e]at b1 d;have l:(aW 2 n).length-1<8*(aW 256 n).length:=(Nat.pow_lt_pow_iff_right (a:=2) (by decide)).1 (Nat.lt_of_le_of_lt f b1);have c:8*((aW 256 n).length-1)<(aW 2 n).length:=(Nat.pow_lt_pow_iff_right (a:=2) (by decide)).1 (Nat.lt_of_le_of_lt d g);omega
theorem O9(n k:Nat):n / 18446744073709551616^(k / 8)%18446744073709551616 / 2^(k%8*8)%256=n / 256^k%256:=by
 have e:(18446744073709551616:Nat)^(k / 8)=256^(8*(k / 8)):=by rw[Nat.pow_mul]
 have d:2^(k%8*8)=256^(k%8):=by rw[Nat.mul_comm,Nat.pow_mul]
 have c:(18446744073709551616:Nat)=256^(k%8)*256^(8-k%8):=by rw[<- Nat.pow_add,show k%8+(8-k%8)=8 by omega]
 have b:256^(8-k%8)=256*256^(7-k%8):=by rw[<- Nat.pow_succ',show(7-k%8).succ=8-k%8 by omega]
 rw[e,d];generalize a:n / 256^(8*(k / 8))=N;rw[c,Nat.mod_mul_right_div_self,b,Nat.mod_mul_right_mod,<- a,Nat.div_div_eq_div_mul,<- Nat.pow_add,show 8*(k / 8)+k%8=k by omega]
theorem QK(n k:Nat):256^k*(n / 256^k)=256^(k+1)*(n / 256^(k+1))+256^k*(n / 256^k%256):=by have h:=Nat.div_add_mod (n / 256^k) 256;grind[Nat.div_div_eq_div_mul]
theorem QL{l:List Nat}{n k:Nat}(h:ok 18446744073709551616 l)(a:val 18446744073709551616 l=256^(k+1)*n):l.getD (k / 8) 0%2^(k%8*8+8)=0:=by
 have d:(18446744073709551616:Nat)^(k / 8)=256^(8*(k / 8)):=by rw[Nat.pow_mul]
 have c:2^(k%8*8+8)=256^(k%8+1):=by rw[show k%8*8+8=8*(k%8+1) by omega,Nat.pow_mul]
 have e:(18446744073709551616:Nat)=256^(k%8+1)*256^(7-k%8):=by rw[<- Nat.pow_add,show k%8+1+(7-k%8)=8 by omega]
 have b:256^(k+1)=256^(8*(k / 8))*256^(k%8+1):=by rw[<- Nat.pow_add,show 8*(k / 8)+(k%8+1)=k+1 by omega]
 rw[ED h,a,d,b,Nat.mul_assoc,Nat.mul_div_cancel_left _ (Nat.pow_pos (by decide)),c];simp_all
end Go.Skm.Dig
namespace Go.Skm.Fen
open Go Go.Skm Go.Skm.Dig
section
def FU(n:Nat):List Nat:=(aW 256 n).reverse
def mQ(n:Nat):ByteArray:=⟨((FU n).map UInt8.ofNat).toArray⟩
theorem JD(n:Nat):(FU n).length=(aW 256 n).length:=by rw[FU,List.length_reverse]
theorem wM(n:Nat):(mQ n).size=(aW 256 n).length:=by show((FU n).map UInt8.ofNat).toArray.size=_;rw[List.size_toArray,qLm,JD]
theorem LU(n i:Nat)(h:i<(aW 256 n).length):(FU n).getD i 0=n / 256^((aW 256 n).length-1-i)%256:=by rw[FU,QJ _ _ h,BN (by decide)]
theorem LV(n i:Nat)(h:i<(aW 256 n).length):((mQ n).data.getD i 0).toNat=n / 256^((aW 256 n).length-1-i)%256:=by
 rw[<- LU n i h];show(((FU n).map UInt8.ofNat).toArray.getD i 0).toNat=_;have c:i<(FU n).length:=by rw[JD];exact h
 have a:(FU n)[i]<256:=sF (b:=256) (by decide) n _ (List.mem_reverse.1 (List.getElem_mem c));simp_all
theorem aaf(n:Nat):(!ltI (n:Int) 0)=true:=by simp
theorem orL{t m r:Nat}(a:t<2^r)(b:r<=64)(c:m<aX)(hd:m%2^r=0):IntKind.u64.wrap (((BitVec.ofInt IntKind.u64.bits (m:Int)) |||(BitVec.ofInt IntKind.u64.bits (t:Int))).toNat:Nat)=((m+t:Nat):Int)/\m+t<aX:=by have h:=orN a b c hd;grind
section
variable (X:Ext) (hX:Mine X)
include hX
theorem adA(n m:Nat)(q:(aW 256 n).length=m)(O:m<=1000000):∀(k i:Nat) (a:List Nat),i+k=m->a.length=(m+7) / 8->ok aX a->val aX a=256^k*(n / 256^k) ->
    L tab (run tab X) 111 [] [.lp [1,1,0,1,0]] (wP (mQ n) 0 ((m+7) / 8) m i (aY .u64 a))=some ([.fresh false kU (nU n)],[]):=by
  have _:=hX;intro k;induction k with
  | zero =>
   intro i a G g f j;have s:i=m:=by omega
   subst s;refine L_of ?_;rw[EN];refine condNP (by omega) ?_;rw[Nat.pow_zero,Nat.one_mul,Nat.div_one]at j;have E:Dig.tight a:=by
    intro d hd H;subst H;have F:a≠[]:=by intro h;rw[h]at hd;simp at hd
    obtain⟨c,hinit⟩:=List.getLast?_eq_some_iff.1 hd;have S:val aX c<aX^c.length:=kW (λx C=>f x (by rw[hinit];exact List.mem_append_left _ C));have R:val aX a=val aX c:=by rw[hinit,jg,Nat.mul_zero,Nat.add_zero]
    have Q:a.length=c.length+1:=by rw[hinit];simp
    have h4:aX^c.length=256^(8*c.length):=by rw[Nat.pow_mul]
    have r:0<n:=by grind[dF]
    have h5:=Af (b:=256) (by decide) r;rw[q]at h5;have P:256^(8*c.length)<=256^(i-1):=Nat.pow_le_pow_right (by decide) (by omega);omega
   have:=Iq b64 f E j;rw[<- g,whole,this]
  | succ k B =>
   intro i a G g f j;refine L_of ?_;rw[EN];refine condP (by omega) ?_;have N:IntKind.i64.wrap ((((mQ n).size:Nat):Int)-1)=(((m-1:Nat)):Int):=by rw[wM,q,wrap_eq (by omega) (by omega)];omega
   have M:IntKind.i64.wrap ((((m-1:Nat)):Int)-(i:Int))=(k:Int):=by rw[wrap_eq (by omega) (by omega)];omega
   have K:IntKind.i64.wrap ((k:Int).tdiv 8)=((k / 8:Nat):Int):=by rw[Int.tdiv_eq_ediv_of_nonneg (by omega),wrap_eq (by omega) (by omega)];omega
   have J:IntKind.i64.wrap ((k:Int).tmod 8*8)=((k%8*8:Nat):Int):=by rw[Int.tmod_eq_emod_of_nonneg (by omega),wrap_eq (by omega) (by omega)];omega
   have I:IntKind.i64.wrap ((i:Int)+1)=((i+1:Nat):Int):=by rw[wrap_eq (by omega) (by omega)];omega
   have u:(leI (0:Int) ((k / 8:Nat):Int)&&ltI ((k / 8:Nat):Int) (((m+7) / 8:Nat):Int))=true:=by simp;omega
   have t:(leI (0:Int) (i:Int)&&ltI (i:Int) (((mQ n).size:Nat):Int))=true:=by rw[wM,q];simp;omega
   have z:(!ltI ((k%8*8:Nat):Int) 0)=true:=aaf _;have A:min (k%8*8) IntKind.u64.bits=k%8*8:=Nat.min_eq_left (show k%8*8<=64 by omega);have l:=LV n i (by omega);rw[q,show m-1-i=k by omega]at l
   have hb256:n / 256^k%256<256:=qNm _ (by decide);have o:n / 256^k%256*2^(k%8*8)<2^(k%8*8+8):=by rw[Nat.add_comm,Nat.pow_add];exact Nat.mul_lt_mul_of_pos_right hb256 (Nat.pow_pos (by decide))
   have p:n / 256^k%256*2^(k%8*8)<aX:=Nat.lt_of_lt_of_le o (Nat.pow_le_pow_right (n:=2) (by decide) (show k%8*8+8<=64 by omega));have D:a.getD (k / 8) 0<aX:=fK f (by decide) _;obtain⟨y,w⟩:=orL o (by omega) D (QL f j);simp only[N,M,K,J,I];rw[u,t,z,qCt,qCt,qCt,qCt];simp only[qIt,qNz,dK,A,l];rw[jB (Nat.lt_trans hb256 (by decide)),Qx,Nat.mod_eq_of_lt p,y,iO];refine B (i+1) _ (by omega) (by simpa using g) (ND f w _) ?_;have v:=Eu aX (a.getD (k / 8) 0+n / 256^k%256*2^(k%8*8)) a (k / 8) (by omega);rw[QK];rw[j]at v;have e:aX^(k / 8)*(n / 256^k%256*2^(k%8*8))=256^k*(n / 256^k%256):=by rw[show aX^(k / 8)=256^(8*(k / 8)) by rw[Nat.pow_mul],show 2^(k%8*8)=256^(k%8) by rw[Nat.mul_comm,Nat.pow_mul],Nat.mul_comm (n / 256^k%256),<- Nat.mul_assoc,<- Nat.pow_add,show 8*(k / 8)+k%8=k by omega]
   grind
theorem aag(n:Nat)(a:(aW 256 n).length<=1000000):run tab X 111 [.p (.str (mQ n))] []=some ([.fresh false kU (nU n)],[]):=
 run_of (hX _ rfl) (by
  have d:IntKind.i64.wrap (((aW 256 n).length:Int)+7)=(((aW 256 n).length+7:Nat):Int):=by rw[wrap_eq (by omega) (by omega)];omega
  have c:IntKind.i64.wrap ((((aW 256 n).length+7:Nat):Int).tdiv 8)=((((aW 256 n).length+7) / 8:Nat):Int):=by rw[Int.tdiv_eq_ediv_of_nonneg (by omega),wrap_eq (by omega) (by omega)];omega
  have b:(leI (0:Int) ((((aW 256 n).length+7) / 8:Nat):Int)&&(leI ((((aW 256 n).length+7) / 8:Nat):Int) ((((aW 256 n).length+7) / 8:Nat):Int)&&leI ((((aW 256 n).length+7) / 8:Nat):Int) (2147483648:Int)))=true:=by simp;omega
  rw[aaL,wM];simp only[d,c];rw[b,qCt,qIt,iI];refine adA X hX n _ rfl a (aW 256 n).length 0 _ (by omega) (by simp) (BI (by decide) _) ?_;rw[vH,Nat.div_eq_of_lt (oU (by decide)),Nat.mul_zero])
end
end
section
theorem Ba(l:List Nat):bytesOf (aY .u8 l)=⟨(l.map UInt8.ofNat).toArray⟩:=by rw[bytesOf,aY,List.map_map];rfl
theorem Gy(n:Nat):(aW 256 n).length=(bl n+7) / 8:=O8 n
def eW(z:Int):PV:=.agg [.bool (decide (z<0)),.str (mQ z.natAbs)]
theorem yx:mQ 0=⟨#[]⟩:=by rw[mQ,FU,dF];rfl
theorem UW:eW 0=.agg [.bool false,.str ⟨#[]⟩]:=by show PV.agg [.bool (decide ((0:Int)<0)),.str (mQ 0)]=_;rw[yx];rfl
theorem Nb.LW(x:Nb):x.z.natAbs=x.2:=by grind[Nb.z]
theorem UY{n k:Nat}(h:(aW aX n).length<=k):bl n<=64*k:=AQ (by rw[Nat.pow_mul];exact xH h)
section
variable (X:Ext) (hX:Mine X) (hB:Bits X)
include hX
theorem adB(n m:Nat)(e:(aW 256 n).length=m)(A:m<=1000000):∀(k i:Nat),i+k=m ->
    L tab (run tab X) 154 [] [.lp [1,1,0,1,0]] (wR (nU n) 0 m m i (aY .u8 ((FU n).take i++List.replicate (m-i) 0)))=some ([.p (.str (mQ n))],[]):=by
  have _:=hX;have t:(FU n).length=m:=by rw[JD,e]
  intro k;induction k with
  | zero =>
   intro i s;have c:i=m:=by omega
   subst c;refine L_of ?_;rw[EP];refine condNP (by omega) ?_;rw[Nat.sub_self,List.replicate_zero,List.append_nil,List.take_of_length_le (l:=FU n) (by omega),qLy,List.take_of_length_le (l:=aY .u8 (FU n)) (by rw[bG];omega),Ba];rfl
  | succ k z =>
   intro i s;refine L_of ?_;rw[EP];refine condP (by omega) ?_;have y:IntKind.i64.wrap ((m:Int)-1)=(((m-1:Nat)):Int):=by rw[wrap_eq (by omega) (by omega)];omega
   have x:IntKind.i64.wrap ((((m-1:Nat)):Int)-(i:Int))=(k:Int):=by rw[wrap_eq (by omega) (by omega)];omega
   have w:IntKind.i64.wrap ((k:Int).tdiv 8)=((k / 8:Nat):Int):=by rw[Int.tdiv_eq_ediv_of_nonneg (by omega),wrap_eq (by omega) (by omega)];omega
   have v:IntKind.i64.wrap ((k:Int).tmod 8*8)=((k%8*8:Nat):Int):=by rw[Int.tmod_eq_emod_of_nonneg (by omega),wrap_eq (by omega) (by omega)];omega
   have u:IntKind.i64.wrap ((i:Int)+1)=((i+1:Nat):Int):=by rw[wrap_eq (by omega) (by omega)];omega
   have r:k / 8<(aW aX n).length:=by
    rcases Nat.lt_or_ge (k / 8) (aW aX n).length with h | h
    . exact h
    . exfalso;have f:=xH h;rw[show aX^(k / 8)=256^(8*(k / 8)) by rw[Nat.pow_mul]]at f;have C:=lI (b:=256) (by decide) f;omega
   have o:(leI (0:Int) ((k / 8:Nat):Int)&&ltI ((k / 8:Nat):Int) (((nU n).length:Nat):Int))=true:=by rw[bG];simp;omega
   have j:(leI (0:Int) (i:Int)&&ltI (i:Int) (m:Int))=true:=by simp;omega
   have q:min (k%8*8) IntKind.u64.bits=k%8*8:=Nat.min_eq_left (show k%8*8<=64 by omega);have d:=LU n i (by omega);rw[e,show m-1-i=k by omega]at d
   have g:IntKind.u8.wrap (((aW aX n).getD (k / 8) 0 / 2^(k%8*8):Nat):Int)=((n / 256^k%256:Nat):Int):=by rw[<- O9,BN b64];rfl
   simp only[y,x,w,v,u];rw[o,aaf,j,qCt,qCt,qCt];simp only[qIt,qNz,dK,q,DV,g];have a:((FU n).take i++List.replicate (m-i) 0).set i (n / 256^k%256)=(FU n).take (i+1)++List.replicate (m-(i+1)) 0:=by
    rw[List.take_succ_eq_append_getElem (by omega),show m-i=(m-(i+1))+1 by omega];have B:((FU n).take i).length=i:=by simp;omega
    have:=set_mid ((FU n).take i) (m-(i+1)) (n / 256^k%256);simp_all
   rw[iO,a];grind
include hB
theorem c154(n:Nat)(b:(aW aX n).length<=100000):run tab X 154 [.p (.list false kU (nU n))] []=some ([.p (.str (mQ n))],[]):=
 run_of (hX _ rfl) (by
  have c:bl n<=64*100000:=UY b;have a:=Gy n;have f:IntKind.i64.wrap ((bl n:Int)+7)=((bl n+7:Nat):Int):=by rw[wrap_eq (by omega) (by omega)];omega
  have e:IntKind.i64.wrap (((bl n+7:Nat):Int).tdiv 8)=((aW 256 n).length:Int):=by rw[Int.tdiv_eq_ediv_of_nonneg (by omega),wrap_eq (by omega) (by omega)];omega
  have d:(leI (0:Int) ((aW 256 n).length:Int)&&(leI ((aW 256 n).length:Int) ((aW 256 n).length:Int)&&leI ((aW 256 n).length:Int) (2147483648:Int)))=true:=by simp;omega
  rw[e154,WJ X hX hB _ (wL n) (yI n) (by omega),dval];simp only[qOb,qLh,pv_p,toInt_int,f,e];rw[d,qCt,qIt,iI];exact adB X hX n _ rfl (by omega) (aW 256 n).length 0 (by omega))
theorem adC(x:Nb)(c:x.le 100000):run tab X 114 [.p (eN x)] []=some (if 65536<bl x.2 then [.p (eW 0),Ab 7]else [.p (eW x.z),Ab 0],[]):=
 run_of (hX _ rfl) (by
  have a:(aW aX x.2).length<=100000:=c;rw[eN,aaO,WJ X hX hB _ (wL _) (yI _) (by omega),dval];simp only[qOb,qLh,pv_p,toInt_int,bG];by_cases h:65536<bl x.2
  . grind[UW]
  . rw[if_neg h];refine condNP (by omega) ?_;rw[c154 X hX hB _ a];simp only[qOb,qLh,pv_p,toStr_str];rw[eW,Nb.LW];have b:decide (x.z<0)=(x.1&&decide (0<x.2)):=by grind[Nb.z]
    rw[b];by_cases hp:0<x.2
    . have:=yH hp;grind
    grind[dF])
end
end
section
theorem iW(x:Nb):PV.agg [.bool (((eN x).cell 0).toBool),.list false kU (((eN x).cell 1).toList)]=eN x:=rfl
theorem iV(z:Int):PV.agg [.bool (((eW z).cell 0).toBool),.str (((eW z).cell 1).toStr)]=eW z:=rfl
def okW(z:Int):Prop:=bl z.natAbs<=65536
instance (z:Int):Decidable (okW z):=inferInstanceAs (Decidable (_<=_))
def yK(z:Int):Nb:=(decide (z<0),z.natAbs)
theorem nJ(z:Int):(yK z).z=z:=by
 unfold yK Nb.z;by_cases h:z<0
 . simp[h];omega
 . simp[h];omega
theorem C9(n:Nat):mQ n=⟨#[]⟩↔n=0:=by
 constructor
 . intro h;have a:=wM n;rw[h]at a;exact(kP (b:=256) (by decide)).1 (List.length_eq_zero_iff.1 a.symm)
 . intro h;rw[h,yx]
theorem Qy{n:Nat}(h:0<n):((mQ n).data.getD 0 0).toNat≠0:=by
 have a:aW 256 n≠[]:=λd=>by have:=(kP (b:=256) (by decide)).1 d;omega
 have c:0<(aW 256 n).length:=List.length_pos_iff.2 a;rw[LV n 0 c,Nat.sub_zero,<- BN (by decide)];exact Nat.ne_of_gt (last_pos (qc (by decide) n) a)
theorem O1{z:Int}(h:okW z):(aW 256 z.natAbs).length<=8192:=by rw[Gy];unfold okW at h;omega
theorem gG{z:Int}(h:okW z):(yK z).le 1024:=by
 have a:∀ k n:Nat,bl n<=64*k->n<aX^k:=λk n h=>by have b:2^bl n<=2^(64*k):=Nat.pow_le_pow_right (by decide) h;rw[Nat.pow_mul]at b;exact Nat.lt_of_lt_of_le (zF n) b
 exact iE (a 1024 _ h)
theorem Tv:okW 0:=by show bl 0<=65536;rw[O3];omega
section
variable (X:Ext) (hX:Mine X) (hB:Bits X)
include hX
theorem c110(z:Int):run tab X 110 [.p (eW z)] []=some ([Ac (decide (okW z))],[]):=
 run_of (hX _ rfl) (by
  rw[eW,e110,ba_beq];by_cases h:z.natAbs=0
  . have c:z=0:=by omega
    subst c;refine condP ((C9 _).2 h) ?_;rw[decide_eq_true Tv];rfl
  . refine condNP (λa=>h ((C9 _).1 a)) ?_;have d:0<(aW 256 z.natAbs).length:=List.length_pos_iff.2 λa=>h ((kP (b:=256) (by decide)).1 a);rw[show ltI 0 ((mQ z.natAbs).size:Int)=true by rw[wM];simp;exact d,qCt];have f:=Qy (Nat.pos_of_ne_zero h);rw[show((((mQ z.natAbs).data.getD 0 0).toNat:Int) != 0)=true by simp;intro a;apply f;simpa using a,qCt,wM,Gy];have e:leI (((bl z.natAbs+7) / 8:Nat):Int) 8192=decide (okW z):=decide_eq_decide.2 (by unfold okW;omega);rw[e])
theorem c108(a b:Int):run tab X 108 [.p (eW a),.p (eW b)] []=some ([Ac (decide (okW a)&&decide (okW b))],[]):=
 run_of (hX _ rfl) (by
  have d:=c110 X hX a;have c:=c110 X hX b;rw[eW]at d c;rw[eW,eW,e108,d];simp only[qOb,qLh,pv_p,toBool_bool];by_cases h:okW a
  . refine condP h ?_;rw[c];simp only[qOb,qLh,pv_p,toBool_bool,decide_eq_true h,Bool.true_and]
  . refine condNP h ?_;rw[decide_eq_false h];rfl)
theorem c139(z:Int)(h:okW z):run tab X 139 [.p (eW z)] []=some ([.p (eN (yK z))],[]):=
 run_of (hX _ rfl) (by rw[eW,aaU,aag X hX _ (Nat.le_trans (O1 h) (by omega))];simp only[qOb,qLh,freshList_fresh,qLy,List.take_length];rfl)
theorem c109(z:Int)(h:okW z):run tab X 109 [.p (eW z)] []=some ([Ab z.sign],[]):=
 run_of (hX _ rfl) (by have b:=c110 X hX z;have a:=c139 X hX z h;rw[eW]at b a;rw[eW,e109,b];simp only[qOb,qLh,pv_p,toBool_bool,decide_eq_true h];rw[a];simp only[qBt,qCf,qOb,qLh,pv_p,iW,c119 X hX,toInt_int];rw[Tt,nJ])
theorem abW(a b:Int)(d:okW a)(c:okW b):run tab X 135 [.p (eW a),.p (eW b)] []=some ([Ab (a-b).sign],[]):=
 run_of (hX _ rfl) (by have g:=c108 X hX a b;have f:=c139 X hX a d;have e:=c139 X hX b c;rw[eW]at f e;rw[eW,eW]at g;rw[eW,eW,aaT,g];simp only[qOb,qLh,pv_p,toBool_bool,decide_eq_true d,decide_eq_true c,Bool.and_true,qBt,qCf];rw[f];simp only[qOb,qLh,pv_p];rw[e];simp only[qOb,qLh,pv_p,iW,WI X hX];rw[c117 X hX _ _ (Nat.le_trans (gG d) (show 1024<=1000000 by omega)) (show(NK (yK b)).le 1000000 from Nat.le_trans (gG c) (show 1024<=1000000 by omega))];simp only[qOb,qLh,pv_p,iW,c119 X hX,toInt_int];rw[Tt,Gx,NM,nJ,nJ,Int.sub_eq_add_neg])
include hB
def yt(z:Int):List AV:=if okW z then [.p (eW z),Ab 0]else [.p (eW 0),Ab 7]
theorem Ip(x:Nb)(a:x.le 100000):run tab X 114 [.p (eN x)] []=some (yt x.z,[]):=by
 rw[adC X hX hB x a,yt];have e:bl x.z.natAbs=bl x.2:=by rw[Nb.LW]
 by_cases h:okW x.z
 . rw[if_pos h,if_neg (by unfold okW at h;omega)]
 . rw[if_neg h,if_pos (by unfold okW at h;omega)]
end
end
end Go.Skm.Fen
