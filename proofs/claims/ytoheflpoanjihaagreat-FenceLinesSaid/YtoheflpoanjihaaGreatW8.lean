import Derived.Test.YtoheflpoanjihaaGreatW4
set_option linter.all false
namespace Go.Skm.Fen
open Go Go.Skm Go.Skm.Dig
section
theorem DV(x k:Nat):(x:Int).fdiv (2^k)=((x / 2^k:Nat):Int):=by grind
theorem Qx(x k:Nat):IntKind.u64.wrap ((x:Int)*2^k)=((x*2^k%aX:Nat):Int):=by rfl
theorem orN{t m r:Nat}(d:t<2^r)(e:r<=64)(f:m<aX)(hd:m%2^r=0):IntKind.u64.wrap (((BitVec.ofInt IntKind.u64.bits (t:Int)) |||(BitVec.ofInt IntKind.u64.bits (m:Int))).toNat:Nat)=((t+m:Nat):Int)/\t+m<aX:=by
 have hB:2^r*2^(64-r)=aX:=by rw[<- Nat.pow_add,Nat.add_sub_cancel' e]
 have b:t<2^64:=Nat.lt_of_lt_of_le d (Nat.pow_le_pow_right (by decide) e);have c:m=2^r*(m / 2^r):=by have:=Nat.mod_add_div m (2^r);omega
 have g:m / 2^r<2^(64-r):=by rw[Nat.div_lt_iff_lt_mul (Nat.pow_pos (by decide)),Nat.mul_comm,hB];exact f
 have a:t+m<aX:=by have:2^r*(m / 2^r+1)<=2^r*2^(64-r):=Nat.mul_le_mul_left _ g;grind
 refine⟨?_,a⟩;show IntKind.u64.wrap (((BitVec.ofInt 64 (t:Int)) |||(BitVec.ofInt 64 (m:Int))).toNat:Nat)=_;rw[BitVec.ofInt_natCast,BitVec.ofInt_natCast,BitVec.toNat_or,BitVec.toNat_ofNat,BitVec.toNat_ofNat,Nat.mod_eq_of_lt b,Nat.mod_eq_of_lt (show m<2^64 from f),Nat.or_comm];have h:m ||| t=m+t:=by rw[c];exact(Nat.two_pow_add_eq_or_of_lt d _).symm
 rw[h,Nat.add_comm m t,jB a]
theorem set_last(a:List Nat)(k v:Nat):(List.replicate (k+1) 0++a).set k v=List.replicate k 0++v::a:=by simp_all[List.replicate_succ']
section
variable (X:Ext) (hX:Mine X) (hB:Bits X)
include hX hB
theorem adJ(N:List Nat)(d:Nat)(y:ok aX N)(hd:0<d)(j:d<aX)(z:N.length<=100000000):∀(k r:Nat) (a:List Nat),k<=N.length->a.length=N.length-k->ok aX a->r<d ->
    val aX (N.drop k)=val aX a*d+r ->
    L tab (run tab X) 189 [] [.lp [1,1,1,0,1,0]] (uQ (aY .u64 N) d 0 N.length r ((k:Int)-1) (aY .u64 (List.replicate k 0++a)))=some ([.fresh false kU (aY .u64 (aW aX (val aX N / d))),.p (.int .u64 (val aX N%d:Nat))],[]):=by
  intro k;induction k with
  | zero =>
   intro r a _ t b g c;refine L_of ?_;rw[Dp];refine condNP (by simp) ?_;rw[qLy]at c;have u:val aX N / d=val aX a:=by rw[c,Nat.mul_comm,Nat.mul_add_div hd,Nat.div_eq_of_lt g,Nat.add_zero]
   have v:val aX N%d=r:=by rw[c,Nat.mul_comm,Nat.mul_add_mod,Nat.mod_eq_of_lt g]
   rw[u,v,List.replicate_zero,List.nil_append];have f:N.length=a.length:=by omega
   rw[f,JA X hX a (by omega) 0 _ (by omega),qLy,List.take_length,<- lX b64 b rfl];simp[qLy,jv,mG]
  | succ k q =>
   intro r a A t b g c;refine L_of ?_;rw[show((k+1:Nat):Int)-1=(k:Int) by omega,Dp];refine condP (by omega) ?_;have o:(leI (0:Int) (k:Int)&&ltI (k:Int) (((aY .u64 N).length:Nat):Int))=true:=by simp;omega
   have n:(leI (0:Int) (k:Int)&&ltI (k:Int) ((N.length:Nat):Int))=true:=by simp;omega
   have m:IntKind.i64.wrap ((k:Int)-1)=(k:Int)-1:=wrap_eq (by omega) (by omega);have s:N.getD k 0<aX:=fK y (by decide) k;rw[o,qCt];simp only[qIt,dK,m,hB.w.div r _ d g s j,qOb,qLh,List.tail_cons,pv_p,toInt_int,qNz];rw[n,qCt,iO,set_last];have i:r*aX+N.getD k 0<aX*d:=by grind
   refine q _ _ (by omega) (by simp;omega) ?_ (qNm _ hd) ?_
   . intro e x;rcases List.mem_cons.1 x with h | h
     . rw[h,Nat.div_lt_iff_lt_mul hd];exact i
     . exact b e h
   . rw[kT (l:=N) (k:=k) (by omega)];show N.getD k 0+aX*val aX (N.drop (k+1))=((r*aX+N.getD k 0) / d+aX*val aX a)*d+(r*aX+N.getD k 0)%d;rw[c];have e:=Nat.div_add_mod (r*aX+N.getD k 0) d;grind
theorem adu(N:List Nat)(d:Nat)(c:ok aX N)(hd:0<d)(a:d<aX)(b:N.length<=100000000):run tab X 189 [.p (.list false kU (aY .u64 N)),.p (.int .u64 d)] []=some ([.fresh false kU (aY .u64 (aW aX (val aX N / d))),.p (.int .u64 (val aX N%d:Nat))],[]):=
 run_of (hX _ rfl) (by
  have e:(leI (0:Int) (((N.length:Nat):Int))&&(leI (((N.length:Nat):Int)) (((N.length:Nat):Int))&&leI (((N.length:Nat):Int)) (2147483648:Int)))=true:=by simp;omega
  rw[e189];simp only[bG];rw[e,qCt,qIt,iI,wrap_eq (by omega) (by omega)];have:=adJ X hX hB N d c hd a b N.length 0 [] (qNr _) (by simp) (pY _) hd (by rw[List.drop_length];simp[val]);grind)
theorem adK(N:List Nat)(r:Nat)(J:r<64)(I:ok aX N)(K:N.length<=100000000):∀(k i t:Nat) (a:List Nat),i+k=N.length->a.length=i->ok aX a->t<2^r ->
    val aX (a++[t])=val aX (N.take i)*2^r ->
    L tab (run tab X) 190 [] [.lp [1,1,1,1,0,1,0]] (lZ 0 r 0 (N.length+1) (aY .u64 N) N.length i (aY .u64 (a++t::List.replicate (N.length-i) 0)))=some ([.fresh false kU (aY .u64 (aW aX (val aX N*2^r)))],[]):=by
  have _:=hB;intro k;induction k with
  | zero =>
   intro i t a H hp c h f;have m:i=N.length:=by omega
   subst m;refine L_of ?_;rw[Az];refine condNP (by omega) ?_;rw[Nat.sub_self,List.replicate_zero];rw[jE _ _ _ (qNr _)]at f;rw[<- f];refine qC X hX _ (by simp;omega) (iG.2 ⟨c,λd hd=>?_⟩) _ (by simp[hp]);rw[List.mem_singleton.1 hd];exact Nat.lt_of_lt_of_le h (Nat.pow_le_pow_right (n:=2) (by decide) (show r<=64 by omega))
  | succ k F =>
   intro i t a H hp c h f;refine L_of ?_;rw[Az];refine condP (by omega) ?_;have y:(leI (0:Int) (i:Int)&&ltI (i:Int) (((aY .u64 N).length:Nat):Int))=true:=by simp;omega
   have x:(leI (0:Int) (i:Int)&&ltI (i:Int) ((N.length+1:Nat):Int))=true:=by simp;omega
   have w:(leI (0:Int) ((i+1:Nat):Int)&&ltI ((i+1:Nat):Int) ((N.length+1:Nat):Int))=true:=by simp;omega
   have w0:IntKind.i64.wrap ((i:Int)+0)=(i:Int):=by rw[wrap_eq (by omega) (by omega)];omega
   have u:IntKind.i64.wrap ((i:Int)+1)=((i+1:Nat):Int):=by rw[wrap_eq (by omega) (by omega)];omega
   have s:IntKind.i64.wrap (64-(r:Int))=((64-r:Nat):Int):=by rw[wrap_eq (by omega) (by omega)];omega
   have C:(!ltI (r:Int) 0)=true:=by simp
   have B:(!ltI ((64-r:Nat):Int) 0)=true:=by simp
   have E:min r IntKind.u64.bits=r:=Nat.min_eq_left (show r<=64 by omega);have D:min (64-r) IntKind.u64.bits=64-r:=Nat.min_eq_left (show 64-r<=64 by omega);have p:N.getD i 0<aX:=fK I (by decide) i;have e:2^r*2^(64-r)=aX:=by rw[<- Nat.pow_add,Nat.add_sub_cancel' (by omega)]
   have gt:(a++t::List.replicate (N.length-i) 0).getD i 0=t:=by simp_all
   have o:N.getD i 0*2^r%aX%2^r=0:=by rw[<- e,Nat.mod_mul_right_mod,Nat.mul_mod_left]
   obtain⟨A,z⟩:=orN h (by omega) (qNm (N.getD i 0*2^r) (show 0<aX by decide)) o;have j:N.getD i 0*2^r=N.getD i 0*2^r%aX+aX*(N.getD i 0 / 2^(64-r)):=by
    have O:=Nat.mod_add_div (N.getD i 0*2^r) aX;have M:N.getD i 0*2^r / aX=N.getD i 0 / 2^(64-r):=by rw[<- e,Nat.mul_comm (N.getD i 0),Nat.mul_div_mul_left _ _ (Nat.pow_pos (by decide))]
    grind
   have g:N.getD i 0 / 2^(64-r)<2^r:=by rw[Nat.div_lt_iff_lt_mul (Nat.pow_pos (by decide)),e];exact p
   have b:L tab (run tab X) 190 [] [.lp [1,1,1,1,0,1,0]] (lZ 0 r 0 (N.length+1) (aY .u64 N) N.length (i+1:Nat) (aY .u64 ((a++[t+N.getD i 0*2^r%aX])++(N.getD i 0 / 2^(64-r))::List.replicate (N.length-(i+1)) 0)))=some ([.fresh false kU (aY .u64 (aW aX (val aX N*2^r)))],[]):=by refine F (i+1) _ _ (by omega) (by simp[hp]) (iG.2 ⟨c,λd hd=>by rw[List.mem_singleton.1 hd];exact z⟩) g ?_;rw[jg,jg,qLp,List.length_singleton,hp,lW,Nat.add_mul,<- f,jg,hp,Nat.mul_assoc,congrArg (aX^i*·) j,Nat.pow_succ];grind
   have v:(aY .u64 (a++t::List.replicate (N.length-i) 0)).set i (.int .u64 ((t+N.getD i 0*2^r%aX:Nat):Int))=aY .u64 ((a++[t+N.getD i 0*2^r%aX])++List.replicate (N.length-i) 0):=by rw[iO,List.set_append,if_neg (by omega),hp,Nat.sub_self,List.append_assoc];rfl
   simp only[w0,u,s];rw[y,x,C,qCt,qCt,qCt,qCt];simp only[qIt,dK,qNz,E,D,gt,Qx,A,v,DV];by_cases q:(r:Int) > 0
   . refine condP q ?_;rw[B,w,qCt,qCt,show N.length-i=(N.length-(i+1))+1 by omega,show i+1=(a++[t+N.getD i 0*2^r%aX]).length by simp[hp],iO,set_mid,List.append_assoc];simp only[qLp,List.length_singleton,hp,List.append_assoc]at b ⊢;exact b
   . refine condNP q ?_;have l:r=0:=by omega
     subst l;have G:N.getD i 0 / 2^(64-0)=0:=Nat.div_eq_of_lt p;rw[G]at b;rw[show N.length-i=(N.length-(i+1))+1 by omega,List.replicate_succ];exact b
theorem aac(N:List Nat)(r:Nat)(c:r<64)(e:ok aX N)(f:N≠[])(d:N.length<=100000000):run tab X 190 [.p (.list false kU (aY .u64 N)),Ab r] []=some ([.fresh false kU (aY .u64 (aW aX (val aX N*2^r)))],[]):=
 run_of (hX _ rfl) (by
  have j:0<N.length:=List.length_pos_iff.2 f;have i:((r:Int)).tdiv 64=0:=by rw[Int.tdiv_eq_ediv_of_nonneg (by omega)];omega
  have h:((r:Int)).tmod 64=r:=by rw[Int.tmod_eq_emod_of_nonneg (by omega)];omega
  have w0:IntKind.i64.wrap 0=0:=by rfl
  have b:IntKind.i64.wrap ((N.length:Int)+0)=(N.length:Int):=by rw[wrap_eq (by omega) (by omega)];omega
  have a:IntKind.i64.wrap ((N.length:Int)+1)=((N.length+1:Nat):Int):=by rw[wrap_eq (by omega) (by omega)];omega
  have g:(leI (0:Int) (((N.length+1:Nat):Int))&&(leI (((N.length+1:Nat):Int)) (((N.length+1:Nat):Int))&&leI (((N.length+1:Nat):Int)) (2147483648:Int)))=true:=by simp;omega
  rw[e190];simp only[bG,i,h,w0,b,a];rw[show(((N.length:Nat):Int)==0)=false by simp;omega,qCf,g,qCt,qIt,iI];exact adK X hX hB N r c e d N.length 0 0 [] (by omega) rfl (pY _) (Nat.pow_pos (by decide)) (by simp[val]))
end
end
section
theorem orM{t m r:Nat}(a:t<2^(64-r))(b:r<=64):IntKind.u64.wrap (((BitVec.ofInt IntKind.u64.bits (t:Int)) |||(BitVec.ofInt IntKind.u64.bits ((m*2^(64-r)%aX:Nat):Int))).toNat:Nat)=((t+m%2^r*2^(64-r):Nat):Int)/\t+m%2^r*2^(64-r)<aX:=by
 have hB:2^(64-r)*2^r=aX:=by rw[<- Nat.pow_add,Nat.sub_add_cancel b]
 have e:m*2^(64-r)%aX=m%2^r*2^(64-r):=by grind[Nat.mul_mod_mul_left,Nat.mul_comm]
 have h:=orN (m:=m*2^(64-r)%aX) a (by omega) (qNm _ (by decide)) (by rw[e,Nat.mul_mod_left]);omega
section
variable (X:Ext) (hX:Mine X) (hB:Bits X)
include hX hB
theorem adL(N:List Nat)(r:Nat)(K:0<r)(I:r<64)(H:ok aX N)(J:N.length<=100000):∀(k i:Nat) (a:List Nat),i+k=N.length->a.length=i->ok aX a ->
    val aX a*2^r+N.getD 0 0%2^r=val aX (N.take i)+aX^i*(N.getD i 0%2^r) ->
    L tab (run tab X) 192 [] [.lp [1,1,1,1,0,1,0,1,0]] (jH (aY .u64 N) 0 r 0 N.length N.length i (aY .u64 (a++N.drop i)))=some ([.fresh false kU (aY .u64 (aW aX (val aX N / 2^r)))],[]):=by
  have _:=hB;intro k;induction k with
  | zero =>
   intro i a G hp c f;have h:i=N.length:=by omega
   subst h;refine L_of ?_;rw[xY];refine condNP (by omega) ?_;rw[List.drop_length,List.append_nil];rw[jE _ _ _ (qNr _),show N.getD N.length 0=0 by rw[qLb,List.getElem?_eq_none (by omega)];rfl,Nat.zero_mod,Nat.mul_zero,Nat.add_zero]at f;have F:val aX N / 2^r=val aX a:=by rw[<- f,Nat.mul_comm,Nat.mul_add_div (Nat.pow_pos (by decide)),Nat.div_eq_of_lt (qNm _ (Nat.pow_pos (by decide))),Nat.add_zero]
   rw[F];exact qC X hX _ (by omega) c _ hp.symm
  | succ k B =>
   intro i a G hp c f;refine L_of ?_;rw[xY];refine condP (by omega) ?_;have s:(leI (0:Int) (i:Int)&&ltI (i:Int) ((N.length:Nat):Int))=true:=by simp;omega
   have p:IntKind.i64.wrap ((i:Int)+1)=((i+1:Nat):Int):=by rw[wrap_eq (by omega) (by omega)];omega
   have n:IntKind.i64.wrap (0+(i:Int))=(i:Int):=by rw[wrap_eq (by omega) (by omega)];omega
   have o:IntKind.i64.wrap (64-(r:Int))=((64-r:Nat):Int):=by rw[wrap_eq (by omega) (by omega)];omega
   have y:(!ltI (r:Int) 0)=true:=by simp
   have x:(!ltI ((64-r:Nat):Int) 0)=true:=by simp
   have A:min r IntKind.u64.bits=r:=Nat.min_eq_left (show r<=64 by omega);have z:min (64-r) IntKind.u64.bits=64-r:=Nat.min_eq_left (show 64-r<=64 by omega);have D:N.getD i 0<aX:=fK H (by decide) i;have j:2^(64-r)*2^r=aX:=by rw[<- Nat.pow_add,Nat.sub_add_cancel (by omega)]
   have gt:(a++N.drop i).getD i 0=N.getD i 0:=by rw[qLb,List.getElem?_append_right (by omega),hp,Nat.sub_self,kT (by omega)];rfl
   have st:∀ v,(a++N.drop i).set i v=(a++[v])++N.drop (i+1):=by intro v;rw[List.set_append,if_neg (by omega),hp,Nat.sub_self,kT (by omega),List.append_assoc];rfl
   have l:∀ v,((a++[v])++N.drop (i+1)).getD i 0=v:=by simp_all
   have e:∀ v u,((a++[v])++N.drop (i+1)).set i u=(a++[u])++N.drop (i+1):=by simp_all
   have E:N.getD i 0 / 2^r<2^(64-r):=by rw[Nat.div_lt_iff_lt_mul (Nat.pow_pos (by decide)),j];exact D
   obtain⟨w,t⟩:=orM (m:=N.getD (i+1) 0) E (by omega);have b:L tab (run tab X) 192 [] [.lp [1,1,1,1,0,1,0,1,0]] (jH (aY .u64 N) 0 r 0 N.length N.length (i+1:Nat) (aY .u64 ((a++[N.getD i 0 / 2^r+N.getD (i+1) 0%2^r*2^(64-r)])++N.drop (i+1))))=some ([.fresh false kU (aY .u64 (aW aX (val aX N / 2^r)))],[]):=by refine B (i+1) _ (by omega) (by simp[hp]) (iG.2 ⟨c,λd hd=>by rw[List.mem_singleton.1 hd];exact t⟩) ?_;rw[jg,hp,lW,Nat.pow_succ];have M:=Nat.mod_add_div (N.getD i 0) (2^r);grind
   simp only[p,n,o];rw[s,y,qCt,qCt,qCt];simp only[qIt,dK,qNz,A,z,gt,DV,Qx,iO,st];by_cases g:((i+1:Nat):Int)<(N.length:Int)
   . refine condP g ?_;have q:(leI (0:Int) ((i+1:Nat):Int)&&ltI ((i+1:Nat):Int) (((aY .u64 N).length:Nat):Int))=true:=by simp at g ⊢;omega
     rw[q,x,qCt,qCt,qCt,qCt];simp only[dK,l,w,iO,e];exact b
   . refine condNP g ?_;have C:N.getD (i+1) 0=0:=by rw[qLb,List.getElem?_eq_none (by omega)];rfl
     rw[C,Nat.zero_mod,Nat.zero_mul,Nat.add_zero]at b;exact b
theorem adM(N:List Nat)(r:Nat)(e:r<64)(c:ok aX N)(b:N.length<=100000):run tab X 192 [.p (.list false kU (aY .u64 N)),Ab r] []=some ([.fresh false kU (aY .u64 (aW aX (val aX N / 2^r)))],[]):=
 run_of (hX _ rfl) (by
  have g:((r:Int)).tdiv 64=0:=by rw[Int.tdiv_eq_ediv_of_nonneg (by omega)];omega
  have f:((r:Int)).tmod 64=r:=by rw[Int.tmod_eq_emod_of_nonneg (by omega)];omega
  have w0:IntKind.i64.wrap 0=0:=by rfl
  rw[abl];simp only[bG,g,f,w0];by_cases d:N=[]
  . subst d;refine condP (by simp) ?_;show some ([AV.fresh false kU []],([]:List Blk))=_;rw[show val aX [] / 2^r=0 from Nat.zero_div _,dF];rfl
  . have h:0<N.length:=List.length_pos_iff.2 d;refine condNP (by omega) ?_;rw[show(leI (0:Int) 0&&(leI 0 (N.length:Int)&&(leI (N.length:Int) (N.length:Int)&&leI (N.length:Int) (N.length:Int))))=true by simp,qCt];simp only[Int.toNat_zero,qLy,Int.sub_zero,qIt];rw[jv,List.take_length,hB.clone N b];simp only[qOb,qLh,freshList_fresh,bG];by_cases a:(r:Int) > 0
    . refine condP a ?_;have:=adL X hX hB N r (by omega) e c b N.length 0 [] (by omega) rfl (pY _) (by simp[val]);grind
    . refine condNP a ?_;have:r=0:=by omega
      subst this;rw[Nat.pow_zero,Nat.div_one];exact qC X hX N (by omega) c _ rfl)
end
end
end Go.Skm.Fen
set_option maxRecDepth 100000
namespace Go.Skm.Fen
open Go Go.Skm Go.Skm.Dig
variable {k n y:Nat}
def bl(n:Nat):Nat:=(aW 2 n).length
theorem O3:bl 0=0:=by rw[bl,dF];rfl
theorem zF(n:Nat):n<2^bl n:=oU (by decide)
theorem OZ(h:0<n):2^(bl n-1)<=n:=Af (by decide) h
theorem JB(h:0<n):0<bl n:=by
 rcases Nat.eq_zero_or_pos (bl n)with a | a
 . have:=zF n;rw[a]at this;omega
 . exact a
theorem AQ(h:n<2^k):bl n<=k:=lI (by decide) h
theorem TJ{t:Nat}(b:n<2^t)(c:t≠0->2^(t-1)<=n):bl n=t:=by
 apply Nat.le_antisymm (AQ b);rcases Nat.eq_zero_or_pos t with h | h
 . omega
 . rcases Nat.lt_or_ge (bl n) t with a | a
   . have h4:=zF n;have h5:2^bl n<=2^(t-1):=Nat.pow_le_pow_right (by decide) (by omega);omega
   . exact a
theorem WR(h:0<n / 2^k):bl n=k+bl (n / 2^k):=by
 have a:=zF (n / 2^k);have b:=OZ h;have c:=JB h;refine TJ ?_ λ_=>?_
 . rw[Nat.div_lt_iff_lt_mul (Nat.pow_pos (by decide)),<- Nat.pow_add,Nat.add_comm]at a;exact a
 . rw[Nat.le_div_iff_mul_le (Nat.pow_pos (by decide)),<- Nat.pow_add]at b;grind
abbrev tbl:ByteArray:=⟨#[0,1,2,2,3,3,3,3,4,4,4,4,4,4,4,4,5,5,5,5,5,5,5,5,5,5,5,5,5,5,5,5,6,6,6,6,6,6,6,6,6,6,6,6,6,6,6,6,6,6,6,6,6,6,6,6,6,6,6,6,6,6,6,6,7,7,7,7,7,7,7,7,7,7,7,7,7,7,7,7,7,7,7,7,7,7,7,7,7,7,7,7,7,7,7,7,7,7,7,7,7,7,7,7,7,7,7,7,7,7,7,7,7,7,7,7,7,7,7,7,7,7,7,7,7,7,7,7,8,8,8,8,8,8,8,8,8,8,8,8,8,8,8,8,8,8,8,8,8,8,8,8,8,8,8,8,8,8,8,8,8,8,8,8,8,8,8,8,8,8,8,8,8,8,8,8,8,8,8,8,8,8,8,8,8,8,8,8,8,8,8,8,8,8,8,8,8,8,8,8,8,8,8,8,8,8,8,8,8,8,8,8,8,8,8,8,8,8,8,8,8,8,8,8,8,8,8,8,8,8,8,8,8,8,8,8,8,8,8,8,8,8,8,8,8,8,8,8,8,8,8,8,8,8,8,8]⟩
theorem TK:∀ y,y<256->y<2^(tbl.data.getD y 0).toNat/\((tbl.data.getD y 0).toNat≠0->2^((tbl.data.getD y 0).toNat-1)<=y):=by decide +kernel
theorem WS(h:y<256):(tbl.data.getD y 0).toNat=bl y:=(TJ (TK y h).1 (TK y h).2).symm
theorem LQ(h:y<aX):bl y<=64:=AQ h
theorem vk(k y:Nat)(a:y<256)(c:k<=56):(bif (leI (0:Int) (IntKind.u8.wrap (y:Int))&&ltI (IntKind.u8.wrap (y:Int)) (tbl.size:Int))then some ([Ab (IntKind.i64.wrap ((k:Int)+(IntKind.i64.wrap ((tbl.data.getD ((IntKind.u8.wrap (y:Int)).toNat) 0).toNat:Int))))],([]:List Blk))else none)=some ([Ab ((k+bl y:Nat):Int)],[]):=by
 have w:IntKind.u8.wrap (y:Int)=(y:Int):=by show(y:Int)%2^8=y;omega
 have d:bl y<=8:=AQ (by simpa using a);have b:(tbl.size:Int)=256:=by rfl
 rw[w,b,show(leI (0:Int) (y:Int)&&ltI (y:Int) 256)=true by simp;omega,qCt,qIt,WS a,wrap_eq (x:=((bl y:Nat):Int)) (by omega) (by omega),wrap_eq (by omega) (by omega),Int.natCast_add]
section
variable (X:Ext) (hX:Mine X)
include hX
theorem adN(x:Nat)(e:x<aX):run tab X 170 [.p (.int .u64 x)] []=some ([Ab (bl x:Nat)],[]):=
 run_of (hX _ rfl) (by
  have e:x<18446744073709551616:=e;have b:∀ k y:Nat,y<256->k<=56->y=x / 2^k->(k≠0->0<y)->some ([Ab ((k+bl y:Nat):Int)],([]:List Blk))=some ([Ab (bl x:Nat)],[]):=by
   intro k y _ _ d c;by_cases f:k=0
   . grind
   . have:=c f;rw[d]at this ⊢;rw[<- WR this]
  rw[e170];simp only[DV];by_cases d:(x:Int) >= 4294967296
  . refine condP d ?_;by_cases c:((x / 2^32:Nat):Int) >= 65536
    . refine condP c ?_;by_cases a:((x / 2^32 / 2^16:Nat):Int) >= 256
      . refine condP a ?_;exact(vk 56 (x / 2^32 / 2^16 / 2^8) (by omega) (by omega)).trans (b 56 _ (by omega) (by omega) (by omega) (by omega))
      . refine condNP a ?_;exact(vk 48 (x / 2^32 / 2^16) (by omega) (by omega)).trans (b 48 _ (by omega) (by omega) (by omega) (by omega))
    . refine condNP c ?_;by_cases a:((x / 2^32:Nat):Int) >= 256
      . refine condP a ?_;exact(vk 40 (x / 2^32 / 2^8) (by omega) (by omega)).trans (b 40 _ (by omega) (by omega) (by omega) (by omega))
      . refine condNP a ?_;exact(vk 32 (x / 2^32) (by omega) (by omega)).trans (b 32 _ (by omega) (by omega) (by omega) (by omega))
  . refine condNP d ?_;by_cases c:(x:Int) >= 65536
    . refine condP c ?_;by_cases a:((x / 2^16:Nat):Int) >= 256
      . refine condP a ?_;exact(vk 24 (x / 2^16 / 2^8) (by omega) (by omega)).trans (b 24 _ (by omega) (by omega) (by omega) (by omega))
      . refine condNP a ?_;exact(vk 16 (x / 2^16) (by omega) (by omega)).trans (b 16 _ (by omega) (by omega) (by omega) (by omega))
    . refine condNP c ?_;by_cases a:(x:Int) >= 256
      . refine condP a ?_;exact(vk 8 (x / 2^8) (by omega) (by omega)).trans (b 8 _ (by omega) (by omega) (by omega) (by omega))
      . refine condNP a ?_;exact(vk 0 x (by omega) (by omega)).trans (b 0 _ (by omega) (by omega) (by omega) (by omega)))
theorem WH(x:Nat)(a:x<aX):run tab X 153 [.p (.int .u64 x)] []=some ([Ab (64-bl x:Nat)],[]):=
 run_of (hX _ rfl) (by have:=LQ a;rw[e153,adN X hX x a];simp only[qOb,qLh,pv_p,toInt_int];rw[wrap_eq (by omega) (by omega),show(64:Int)-((bl x:Nat):Int)=((64-bl x:Nat):Int) by omega])
variable (hB:Bits X)
include hB
theorem WJ(N:List Nat)(f:ok aX N)(i:Dig.tight N)(s:N.length<=100000000):run tab X 112 [.p (.list false kU (aY .u64 N))] []=some ([Ab (bl (val aX N):Nat)],[]):=
 run_of (hX _ rfl) (by
  have _:=hB;rw[aaM];simp only[bG];by_cases g:N=[]
  . subst g;rw[show val aX []=0 from rfl,O3];rfl
  . have t:0<N.length:=List.length_pos_iff.2 g;rw[show(((N.length:Nat):Int)==0)=false by simp;omega,qCf,wrap_eq (x:=(N.length:Int)-1) (by omega) (by omega),show(N.length:Int)-1=((N.length-1:Nat):Int) by omega];have h:(leI (0:Int) ((N.length-1:Nat):Int)&&ltI ((N.length-1:Nat):Int) ((N.length:Nat):Int))=true:=by simp;omega
    have c:N.getD (N.length-1) 0<aX:=fK f (by decide) _;rw[h,qCt,qIt,dK,WH X hX _ c];simp only[qOb,qLh,pv_p,toInt_int];have m:=LQ c;have a:0<N.getD (N.length-1) 0:=by
     have o:N.getLast?=some (N.getD (N.length-1) 0):=by grind
     exact Nat.pos_of_ne_zero (i _ o)
    have j:=JB a;have e:bl (val aX N)=64*(N.length-1)+bl (N.getD (N.length-1) 0):=by
     have d:=zn aX N (N.length-1) (by omega);rw[List.drop_eq_nil_of_le (show N.length<=N.length-1+1 by omega),show val aX []=0 from rfl,Nat.mul_zero,Nat.add_zero]at d;have b:=kW (zi f (N.length-1));rw[List.length_take,Nat.min_eq_left (by omega)]at b;have l:aX^(N.length-1)=2^(64*(N.length-1)):=by rw[Nat.pow_mul]
     rw[l]at d b;have r:=zF (N.getD (N.length-1) 0);have q:=OZ a;refine TJ ?_ λ_=>?_
     . rw[Nat.pow_add];have:=Nat.mul_le_mul_left (2^(64*(N.length-1))) r;grind
     . rw[show 64*(N.length-1)+bl (N.getD (N.length-1) 0)-1=64*(N.length-1)+(bl (N.getD (N.length-1) 0)-1) by omega,Nat.pow_add];have:=Nat.mul_le_mul_left (2^(64*(N.length-1))) q;omega
    rw[e,wrap_eq (x:=(N.length:Int)*64) (by omega) (by omega),wrap_eq (by omega) (by omega),show(N.length:Int)*64-((64-bl (N.getD (N.length-1) 0):Nat):Int)=((64*(N.length-1)+bl (N.getD (N.length-1) 0):Nat):Int) by omega])
end
end Go.Skm.Fen
namespace Go.Skm.Dig
variable {L R W l:List Nat}{B D b j k n:Nat}
theorem tX(h:k<l.length):l.drop k=l.getD k 0::l.drop (k+1):=by simp_all
theorem Ag(b:Nat)(l:List Nat)(k:Nat)(h:k<=l.length):val b l=val b (l.take k)+b^k*val b (l.drop k):=by
 conv=>lhs;rw[<- List.take_append_drop k l]
 grind[val_append,List.length_take]
theorem QG(h:ok b l)(i:Nat):ok b (l.take i):=λd hd=>h d (List.mem_of_mem_take hd)
theorem Xg(h:ok b l)(i:Nat):ok b (l.drop i):=λd hd=>h d (List.mem_of_mem_drop hd)
theorem NS(o:0<B)(a:R.length=n+1)(g:j+k<=n)(f:val B R<B^(j+1)*D)(i:D<=B^k) :
    val B R=val B (R.take j)+B^j*val B ((R.drop j).take (k+1))/\val B ((R.drop j).take (k+1))<B*D:=by
  have d:=Ag B R j (by omega);have c:=Ag B (R.drop j) (k+1) (by simp;omega);have e:val B ((R.drop j).drop (k+1))=0:=by
   rcases Nat.eq_zero_or_pos (val B ((R.drop j).drop (k+1)))with h | h
   . exact h
   . exfalso;have m:B^(k+1)<=val B (R.drop j):=by have:=Nat.mul_le_mul_left (B^(k+1)) h;omega
     have q:B^j*B^(k+1)<=B^j*val B (R.drop j):=Nat.mul_le_mul_left _ m;have p:B^(j+1)*D<=B^j*B^(k+1):=by rw[Nat.pow_succ,Nat.pow_succ',Nat.mul_assoc];exact Nat.mul_le_mul_left _ (Nat.mul_le_mul_left _ i)
     omega
  rw[e,Nat.mul_zero,Nat.add_zero]at c;rw[c]at d;refine⟨d,?_⟩;have:B^j*val B ((R.drop j).take (k+1))<B^j*(B*D):=by grind
  exact Nat.lt_of_mul_lt_mul_left this
theorem TN(g:0<B)(a:ok B W)(c:W.length=k+1)(f:0<k):val B W<(W.getD k 0*B+W.getD (k-1) 0+1)*B^(k-1):=by have d:=Ag B W (k-1) (by omega);rw[tX (l:=W) (k:=k-1) (by omega),show k-1+1=k by omega,tX (l:=W) (k:=k) (by omega),List.drop_eq_nil_of_le (show W.length<=k+1 by omega)]at d;have e:=kW (QG a (k-1));rw[List.length_take,Nat.min_eq_left (by omega)]at e;rw[d];show _+B^(k-1)*(W.getD (k-1) 0+B*(W.getD k 0+B*0))<_;grind
theorem top_le{D:List Nat}(a:D.length=k)(d:0<k):D.getD (k-1) 0*B^(k-1)<=val B D:=by have c:=Ag B D (k-1) (by omega);rw[tX (l:=D) (k:=k-1) (by omega)]at c;rw[c];show _<=_+B^(k-1)*(D.getD (k-1) 0+B*val B (D.drop (k-1+1)));grind
def guess(B t s d:Nat):Nat:=if t<d then(t*B+s) / d else B-1
theorem QH{D:List Nat}(d:0<B)(f:ok B W)(i:W.length=k+1)(hd:D.length=k)(e:0<k)(hp:0<D.getD (k-1) 0)(c:val B W<B*val B D) :
    val B W / val B D<=guess B (W.getD k 0) (W.getD (k-1) 0) (D.getD (k-1) 0)/\guess B (W.getD k 0) (W.getD (k-1) 0) (D.getD (k-1) 0)<B:=by
  have g:=top_le (B:=B) hd e;have a:0<val B D:=Nat.lt_of_lt_of_le (Nat.mul_pos hp (Nat.pow_pos d)) g;have o:val B W / val B D<B:=by rw[Nat.div_lt_iff_lt_mul a];exact c
  rw[guess];by_cases h:W.getD k 0<D.getD (k-1) 0
  . rw[if_pos h];refine⟨TM hp g (TN d f i e) d,?_⟩;rw[Nat.div_lt_iff_lt_mul hp];have m:W.getD (k-1) 0<B:=by rw[List.getD_eq_getElem?_getD,List.getElem?_eq_getElem (by omega)];exact f _ (List.getElem_mem _)
    have:=Nat.mul_le_mul_right B h;grind
  . grind
theorem Ir(B:Nat)(l:List Nat)(n:Nat):val B (l++List.replicate n 0)=val B l:=by rw[val_append,vH];simp
def xR(R:List Nat)(j k:Nat)(L:List Nat):List Nat:=R.take j++(L++List.replicate (k+1-L.length) 0)++R.drop (j+(k+1))
theorem Iu(a:R.length=n+1)(c:j+k<=n)(d:L.length<=k+1):(xR R j k L).length=n+1:=by grind[xR]
theorem QI(e:0<B)(a:ok B R)(c:ok B L):ok B (xR R j k L):=
 iG.2 ⟨iG.2 ⟨QG a j,iG.2 ⟨c,λd hd=>by rw[List.eq_of_mem_replicate hd];exact e⟩⟩,Xg a _⟩
theorem O7{g:Nat}(u:0<B)(t:ok B R)(f:R.length=n+1)(p:j+k<=n)(o:val B R<B^(j+1)*D)(q:D<=B^k)(hp:0<D)(w:L.length<=k+1)
    (s:g=val B ((R.drop j).take (k+1)) / D)(v:val B L=val B ((R.drop j).take (k+1))-D*g) :
    val B R=val B (xR R j k L)+B^j*(g*D)/\val B (xR R j k L)<B^j*D:=by
  obtain⟨y,x⟩:=NS u f p o q;have r:val B (R.drop (j+(k+1)))=0:=by
   have a:=Ag B R (j+(k+1)) (by omega);rcases Nat.eq_zero_or_pos (val B (R.drop (j+(k+1))))with h | h
   . exact h
   . exfalso;have A:=Nat.mul_le_mul_left (B^(j+(k+1))) h;have z:B^(j+1)*D<=B^(j+(k+1)):=by rw[show j+(k+1)=j+1+k by omega,Nat.pow_add B (j+1) k];exact Nat.mul_le_mul_left _ q
     omega
  have e:val B (xR R j k L)=val B (R.take j)+B^j*val B L:=by rw[xR,val_append,r,Nat.mul_zero,Nat.add_zero,val_append,Ir,List.length_take,Nat.min_eq_left (by omega)]
  have c:=Nat.div_add_mod (val B ((R.drop j).take (k+1))) D;have m:=Nat.mod_lt (val B ((R.drop j).take (k+1))) hp;rw[<- s]at c;have i:val B L=val B ((R.drop j).take (k+1))%D:=by omega
  have d:=kW (QG t j);rw[List.length_take,Nat.min_eq_left (by omega)]at d;constructor
  . grind
  . rw[e,i];have:=Nat.mul_le_mul_left (B^j) m;grind
end Go.Skm.Dig
namespace Go.Skm.Fen
open Go Go.Skm Go.Skm.Dig
theorem Aa(k:IntKind)(b v:List Nat)(o:Nat):patch (aY k b) o (aY k v)=aY k (b.take o++v++b.drop (o+v.length)):=by simp[patch,jv,Io,rE,bG]
theorem DW(R L:List Nat)(j k n:Nat)(a:R.length=n+1)(d:j+k<=n)(e:L.length<=k+1) :
    patch (patch (aY .u64 R) j (List.replicate (k+1) (PV.int .u64 0))) j ((((aY .u64 L).drop 0).take (aY .u64 L).length).take (Nat.min (aY .u64 L).length (k+1)))=aY .u64 (xR R j k L):=by
  rw[qLy,List.take_length,bG,List.take_of_length_le (by rw[bG];exact Nat.le_min.2 ⟨qNr _,e⟩),iI,Aa,Aa];congr 1;have f:(R.take j).length=j:=by simp;omega
  have c:(R.take j++List.replicate (k+1) 0++R.drop (j+(k+1))).take j=R.take j:=by rw[List.append_assoc,List.take_left' f]
  have b:(R.take j++List.replicate (k+1) 0++R.drop (j+(k+1))).drop (j+L.length)=List.replicate (k+1-L.length) 0++R.drop (j+(k+1)):=by simp_all[List.append_assoc,List.drop_append,List.nil_append,List.length_replicate,qLy,List.drop_replicate]
  rw[xR,List.length_replicate,c,b,List.append_assoc,List.append_assoc,List.append_assoc]
theorem NQ(x:List Nat)(l:Nat):x.take (trim (x.take l)).length=trim (x.take l):=by have a:=mG (x.take l);grind
theorem trimmed(b:List Nat)(a:ok aX b)(o l:Nat):((aY .u64 b).drop o).take (trim ((b.drop o).take l)).length=aY .u64 (aW aX (val aX ((b.drop o).take l))):=by rw[Io,jv,NQ,<- lX b64 (zi (O4 a o) l) rfl]
theorem whole(x:List Nat):((aY .u64 x).drop 0).take x.length=aY .u64 x:=by rw[qLy,<- bG .u64 x,List.take_length]
theorem iE{n k:Nat}(h:n<aX^k):(aW aX n).length<=k:=lI b64 h
theorem wL(n:Nat):ok aX (aW aX n):=sF b64 n
theorem dval(n:Nat):val aX (aW aX n)=n:=lH b64 n
theorem yI(n:Nat):Dig.tight (aW aX n):=qc b64 n
theorem uI(a b:Nat):cmpL aX (aW aX a) (aW aX b)<0↔a<b:=by rw[U4 b64 (wL a) (wL b) (yI a) (yI b),dval,dval]
section
variable (X:Ext) (hX:Mine X) (hB:Bits X)
include hX hB
theorem aao(o:Nat)(D R Q:List Nat)(n j k e:Nat)(G:n<=10000000)(v:ok aX D)(u:Dig.tight D)(l:D.length=k)(z:0<val aX D)(p:ok aX R)(c:R.length=n+1)(f:j+k<=n)(F:j<e)(H:Q.length=e)
    (E:val aX ((R.drop j).take (k+1))<aX*val aX D)(r:List AV × List Blk)
    (K:L tab (run tab X) 186 [] [.lp [1,1,1,1,1,1,1,1,0,1,0]] (jG o 0 k 0 (n+1) k 0 e ((j:Int)-1) (aY .u64 D) (aY .u64 (xR R j k (aW aX (val aX ((R.drop j).take (k+1))-val aX D*(val aX ((R.drop j).take (k+1)) / val aX D))))) (aY .u64 (Q.set j (val aX ((R.drop j).take (k+1)) / val aX D))))=some r) :
    ∀ g,val aX ((R.drop j).take (k+1)) / val aX D<=g->g<aX ->
    L tab (run tab X) 186 [] [.lp [1,1,1,1,1,1,1,1,0,1,0],.lp [1,0,0,1,1,1,1,0,0]] (fB o 0 k 0 (n+1) k 0 e j g j (k+1) 0 (aW aX (val aX D*g)).length (aY .u64 D) (aY .u64 R) (aY .u64 Q) (aY .u64 (aW aX (val aX D*g))))=some r:=by
  have _:=hB;have i:val aX D<aX^k:=by rw[<- l];exact kW v
  have a:val aX ((R.drop j).take (k+1))<aX^(k+1):=by grind
  have d:∀ g,g<aX->(aW aX (val aX D*g)).length<=k+1:=by intro g y;refine iE ?_;rw[Nat.pow_succ];exact Nat.mul_lt_mul'' i y
  intro g;induction g with
  | zero =>
   intro w m;have C:val aX ((R.drop j).take (k+1)) / val aX D=0:=Nat.eq_zero_of_le_zero w;refine L_of ?_;rw[lK,JA X hX R (by omega) j (k+1) (by omega)];simp only[qOb,qLh,xs_arr,sOff_slice,sLen_slice];rw[trimmed R p,whole,c156 X hX _ _ (wL _) (wL _) (Nat.le_trans (iE a) (by omega)) (Nat.le_trans (d _ m) (by omega))];simp only[qOb,qLh,pv_p,toInt_int];refine condNP (by rw[uI,Nat.mul_zero];exact Nat.not_lt_zero _) ?_;rw[JA X hX R (by omega) j (k+1) (by omega)];simp only[qOb,qLh,xs_arr,sOff_slice,sLen_slice];rw[trimmed R p,c157 X hX _ _ (wL _) (wL _) (Nat.le_trans (iE a) (by omega)) (by rw[Nat.mul_zero,dF];simp) (by rw[Nat.mul_zero,dF];exact Nat.zero_le _)];simp only[qOb,qLh,freshList_fresh,dval,qIt,qNz];have q:(leI (0:Int) (j:Int)&&ltI (j:Int) (e:Int))=true:=by simp;omega
   rw[q,qCt,wrap_eq (by omega) (by omega),DW R _ j k n c f (iE (Nat.lt_of_le_of_lt (Nat.sub_le _ _) a))];grind[iO]
  | succ g B =>
   intro w m;refine L_of ?_;rw[lK,JA X hX R (by omega) j (k+1) (by omega)];simp only[qOb,qLh,xs_arr,sOff_slice,sLen_slice];rw[trimmed R p,whole,c156 X hX _ _ (wL _) (wL _) (Nat.le_trans (iE a) (by omega)) (Nat.le_trans (d _ m) (by omega))];simp only[qOb,qLh,pv_p,toInt_int];by_cases b:val aX ((R.drop j).take (k+1))<val aX D*(g+1)
   . refine condP (by rw[uI];exact b) ?_;obtain⟨_,A⟩:=QF z b;have s:val aX D<=val aX D*(g+1):=Nat.le_mul_of_pos_right _ (by omega);have t:((aY .u64 D).drop 0).take k=aY .u64 D:=by rw[<- l];exact whole D
     have x:D.length<=(aW aX (val aX D*(g+1))).length:=by
      rcases Nat.lt_or_ge (aW aX (val aX D*(g+1))).length D.length with h | h
      . exfalso;have:=wI b64 (wL _) v u h;grind[dval]
      . exact h
     rw[t,c157 X hX _ _ (wL _) v (Nat.le_trans (d _ m) (by omega)) x (by rw[dval];exact s)];simp only[qOb,qLh,freshList_fresh,dval,bG];rw[show((g+1:Nat):Int)-1=(g:Int) by omega,jB (Nat.lt_of_succ_lt m),show val aX D*(g+1)-val aX D=val aX D*g by rw[Nat.mul_succ,Nat.add_sub_cancel]];grind
   . refine condNP (by rw[uI];exact b) ?_;have y:=QE z w (Nat.le_of_not_lt b);rw[JA X hX R (by omega) j (k+1) (by omega)];simp only[qOb,qLh,xs_arr,sOff_slice,sLen_slice];have hlen2:(aW aX (val aX D*(g+1))).length<=(aW aX (val aX ((R.drop j).take (k+1)))).length:=by
      rcases Nat.lt_or_ge (aW aX (val aX ((R.drop j).take (k+1)))).length (aW aX (val aX D*(g+1))).length with h | h
      . exfalso;have:=wI b64 (wL _) (wL _) (yI _) h;grind[dval]
      . exact h
     rw[trimmed R p,c157 X hX _ _ (wL _) (wL _) (Nat.le_trans (iE a) (by omega)) hlen2 (by rw[dval,dval];exact Nat.le_of_not_lt b)];simp only[qOb,qLh,freshList_fresh,dval,qIt,qNz];have q:(leI (0:Int) (j:Int)&&ltI (j:Int) (e:Int))=true:=by simp;omega
     rw[q,qCt,wrap_eq (by omega) (by omega),DW R _ j k n c f (iE (Nat.lt_of_le_of_lt (Nat.sub_le _ _) a))];grind[iO]
end
end Go.Skm.Fen
