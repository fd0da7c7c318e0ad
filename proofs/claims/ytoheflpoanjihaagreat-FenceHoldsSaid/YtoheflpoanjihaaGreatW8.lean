import Derived.Test.YtoheflpoanjihaaGreatW4
set_option linter.all false
namespace Go.Skm.Fen
open Go Go.Skm Go.Skm.Dig
section
theorem TN(x k:Nat):(x:Int).fdiv (2^k)=((x / 2^k:Nat):Int):=by grind
theorem aib(x k:Nat):IntKind.u64.wrap ((x:Int)*2^k)=((x*2^k%bH:Nat):Int):=by rfl
theorem orN{t m r:Nat}(d:t<2^r)(e:r<=64)(f:m<bH)(hd:m%2^r=0):IntKind.u64.wrap (((BitVec.ofInt IntKind.u64.bits (t:Int)) |||(BitVec.ofInt IntKind.u64.bits (m:Int))).toNat:Nat)=((t+m:Nat):Int)/\t+m<bH:=by
 have hB:2^r*2^(64-r)=bH:=by rw[<- Nat.pow_add,Nat.add_sub_cancel' e]
 have b:t<2^64:=Nat.lt_of_lt_of_le d (Nat.pow_le_pow_right (by decide) e);have c:m=2^r*(m / 2^r):=by have:=Nat.mod_add_div m (2^r);omega
 have g:m / 2^r<2^(64-r):=by rw[Nat.div_lt_iff_lt_mul (Nat.pow_pos (by decide)),Nat.mul_comm,hB];exact f
 have a:t+m<bH:=by have:2^r*(m / 2^r+1)<=2^r*2^(64-r):=Nat.mul_le_mul_left _ g;grind
 refine⟨?_,a⟩;show IntKind.u64.wrap (((BitVec.ofInt 64 (t:Int)) |||(BitVec.ofInt 64 (m:Int))).toNat:Nat)=_;rw[BitVec.ofInt_natCast,BitVec.ofInt_natCast,BitVec.toNat_or,BitVec.toNat_ofNat,BitVec.toNat_ofNat,Nat.mod_eq_of_lt b,Nat.mod_eq_of_lt (show m<2^64 from f),Nat.or_comm];have h:m ||| t=m+t:=by rw[c];exact(Nat.two_pow_add_eq_or_of_lt d _).symm
 rw[h,Nat.add_comm m t,pF a]
theorem Wn(a:List Nat)(k v:Nat):(List.replicate (k+1) 0++a).set k v=List.replicate k 0++v::a:=by simp_all[List.replicate_succ']
section
variable (X:Ext) (hX:Mine X) (hB:Bits X)
include hX hB
theorem ax8(N:List Nat)(d:Nat)(y:ok bH N)(hd:0<d)(j:d<bH)(z:N.length<=100000000):∀(k r:Nat) (a:List Nat),k<=N.length->a.length=N.length-k->ok bH a->r<d ->
    val bH (N.drop k)=val bH a*d+r ->
    L tab (run tab X) 189 [] [.lp [1,1,1,0,1,0]] (EJ (bI .u64 N) d 0 N.length r ((k:Int)-1) (bI .u64 (List.replicate k 0++a)))=some ([.fresh false kU (bI .u64 (bG bH (val bH N / d))),.p (.int .u64 (val bH N%d:Nat))],[]):=by
  intro k;induction k with
  | zero =>
   intro r a _ t b g c;refine dU ?_;rw[Sr];refine dR (by simp) ?_;rw[qLy]at c;have u:val bH N / d=val bH a:=by rw[c,Nat.mul_comm,Nat.mul_add_div hd,Nat.div_eq_of_lt g,Nat.add_zero]
   have v:val bH N%d=r:=by rw[c,Nat.mul_comm,Nat.mul_add_mod,Nat.mod_eq_of_lt g]
   rw[u,v,List.replicate_zero,List.nil_append];have f:N.length=a.length:=by omega
   rw[f,abe X hX a (by omega) 0 _ (by omega),qLy,List.take_length,<- uF b64 b rfl];simp[qLy,oK,uO]
  | succ k q =>
   intro r a A t b g c;refine dU ?_;rw[show((k+1:Nat):Int)-1=(k:Int) by omega,Sr];refine fK (by omega) ?_;have o:(leI (0:Int) (k:Int)&&cu (k:Int) (((bI .u64 N).length:Nat):Int))=true:=by simp;omega
   have n:(leI (0:Int) (k:Int)&&cu (k:Int) ((N.length:Nat):Int))=true:=by simp;omega
   have m:IntKind.i64.wrap ((k:Int)-1)=(k:Int)-1:=wrap_eq (by omega) (by omega);have s:N.getD k 0<bH:=jy y (by decide) k;rw[o,qCt];simp only[qIt,iy,m,hB.w.div r _ d g s j,qOb,qLh,List.tail_cons,bV,toInt_int,qNz];rw[n,qCt,lZ,Wn];have i:r*bH+N.getD k 0<bH*d:=by grind
   refine q _ _ (by omega) (by simp;omega) ?_ (qNm _ hd) ?_
   . intro e x;rcases List.mem_cons.1 x with h | h
     . rw[h,Nat.div_lt_iff_lt_mul hd];exact i
     . exact b e h
   . rw[rQ (l:=N) (k:=k) (by omega)];show N.getD k 0+bH*val bH (N.drop (k+1))=((r*bH+N.getD k 0) / d+bH*val bH a)*d+(r*bH+N.getD k 0)%d;rw[c];have e:=Nat.div_add_mod (r*bH+N.getD k 0) d;grind
theorem axR(N:List Nat)(d:Nat)(c:ok bH N)(hd:0<d)(a:d<bH)(b:N.length<=100000000):run tab X 189 [.p (.list false kU (bI .u64 N)),.p (.int .u64 d)] []=some ([.fresh false kU (bI .u64 (bG bH (val bH N / d))),.p (.int .u64 (val bH N%d:Nat))],[]):=
 aY (hX _ rfl) (by
  have e:(leI (0:Int) (((N.length:Nat):Int))&&(leI (((N.length:Nat):Int)) (((N.length:Nat):Int))&&leI (((N.length:Nat):Int)) (2147483648:Int)))=true:=by simp;omega
  rw[e189];simp only[dI];rw[e,qCt,qIt,lI,wrap_eq (by omega) (by omega)];have:=ax8 X hX hB N d c hd a b N.length 0 [] (qNr _) (by simp) (yX _) hd (by rw[List.drop_length];simp[val]);grind)
theorem ax9(N:List Nat)(r:Nat)(J:r<64)(I:ok bH N)(K:N.length<=100000000):∀(k i t:Nat) (a:List Nat),i+k=N.length->a.length=i->ok bH a->t<2^r ->
    val bH (a++[t])=val bH (N.take i)*2^r ->
    L tab (run tab X) 190 [] [.lp [1,1,1,1,0,1,0]] (uJ 0 r 0 (N.length+1) (bI .u64 N) N.length i (bI .u64 (a++t::List.replicate (N.length-i) 0)))=some ([.fresh false kU (bI .u64 (bG bH (val bH N*2^r)))],[]):=by
  have _:=hB;intro k;induction k with
  | zero =>
   intro i t a H hp c h f;have m:i=N.length:=by omega
   subst m;refine dU ?_;rw[OV];refine dR (by omega) ?_;rw[Nat.sub_self,List.replicate_zero];rw[pK _ _ _ (qNr _)]at f;rw[<- f];refine zG X hX _ (by simp;omega) (lG.2 ⟨c,λd hd=>?_⟩) _ (by simp[hp]);rw[List.mem_singleton.1 hd];exact Nat.lt_of_lt_of_le h (Nat.pow_le_pow_right (n:=2) (by decide) (show r<=64 by omega))
  | succ k F =>
   intro i t a H hp c h f;refine dU ?_;rw[OV];refine fK (by omega) ?_;have y:(leI (0:Int) (i:Int)&&cu (i:Int) (((bI .u64 N).length:Nat):Int))=true:=by simp;omega
   have x:(leI (0:Int) (i:Int)&&cu (i:Int) ((N.length+1:Nat):Int))=true:=by simp;omega
   have w:(leI (0:Int) ((i+1:Nat):Int)&&cu ((i+1:Nat):Int) ((N.length+1:Nat):Int))=true:=by simp;omega
   have w0:IntKind.i64.wrap ((i:Int)+0)=(i:Int):=by rw[wrap_eq (by omega) (by omega)];omega
   have u:IntKind.i64.wrap ((i:Int)+1)=((i+1:Nat):Int):=by rw[wrap_eq (by omega) (by omega)];omega
   have s:IntKind.i64.wrap (64-(r:Int))=((64-r:Nat):Int):=by rw[wrap_eq (by omega) (by omega)];omega
   have C:(!cu (r:Int) 0)=true:=by simp
   have B:(!cu ((64-r:Nat):Int) 0)=true:=by simp
   have E:min r IntKind.u64.bits=r:=Nat.min_eq_left (show r<=64 by omega);have D:min (64-r) IntKind.u64.bits=64-r:=Nat.min_eq_left (show 64-r<=64 by omega);have p:N.getD i 0<bH:=jy I (by decide) i;have e:2^r*2^(64-r)=bH:=by rw[<- Nat.pow_add,Nat.add_sub_cancel' (by omega)]
   have gt:(a++t::List.replicate (N.length-i) 0).getD i 0=t:=by simp_all
   have o:N.getD i 0*2^r%bH%2^r=0:=by rw[<- e,Nat.mod_mul_right_mod,Nat.mul_mod_left]
   obtain⟨A,z⟩:=orN h (by omega) (qNm (N.getD i 0*2^r) (show 0<bH by decide)) o;have j:N.getD i 0*2^r=N.getD i 0*2^r%bH+bH*(N.getD i 0 / 2^(64-r)):=by
    have O:=Nat.mod_add_div (N.getD i 0*2^r) bH;have M:N.getD i 0*2^r / bH=N.getD i 0 / 2^(64-r):=by rw[<- e,Nat.mul_comm (N.getD i 0),Nat.mul_div_mul_left _ _ (Nat.pow_pos (by decide))]
    grind
   have g:N.getD i 0 / 2^(64-r)<2^r:=by rw[Nat.div_lt_iff_lt_mul (Nat.pow_pos (by decide)),e];exact p
   have b:L tab (run tab X) 190 [] [.lp [1,1,1,1,0,1,0]] (uJ 0 r 0 (N.length+1) (bI .u64 N) N.length (i+1:Nat) (bI .u64 ((a++[t+N.getD i 0*2^r%bH])++(N.getD i 0 / 2^(64-r))::List.replicate (N.length-(i+1)) 0)))=some ([.fresh false kU (bI .u64 (bG bH (val bH N*2^r)))],[]):=by refine F (i+1) _ _ (by omega) (by simp[hp]) (lG.2 ⟨c,λd hd=>by rw[List.mem_singleton.1 hd];exact z⟩) g ?_;rw[nR,nR,qLp,List.length_singleton,hp,uj,Nat.add_mul,<- f,nR,hp,Nat.mul_assoc,congrArg (bH^i*·) j,Nat.pow_succ];grind
   have v:(bI .u64 (a++t::List.replicate (N.length-i) 0)).set i (.int .u64 ((t+N.getD i 0*2^r%bH:Nat):Int))=bI .u64 ((a++[t+N.getD i 0*2^r%bH])++List.replicate (N.length-i) 0):=by rw[lZ,List.set_append,if_neg (by omega),hp,Nat.sub_self,List.append_assoc];rfl
   simp only[w0,u,s];rw[y,x,C,qCt,qCt,qCt,qCt];simp only[qIt,iy,qNz,E,D,gt,aib,A,v,TN];by_cases q:(r:Int) > 0
   . refine fK q ?_;rw[B,w,qCt,qCt,show N.length-i=(N.length-(i+1))+1 by omega,show i+1=(a++[t+N.getD i 0*2^r%bH]).length by simp[hp],lZ,set_mid,List.append_assoc];simp only[qLp,List.length_singleton,hp,List.append_assoc]at b ⊢;exact b
   . refine dR q ?_;have l:r=0:=by omega
     subst l;have G:N.getD i 0 / 2^(64-0)=0:=Nat.div_eq_of_lt p;rw[G]at b;rw[show N.length-i=(N.length-(i+1))+1 by omega,List.replicate_succ];exact b
theorem ar7(N:List Nat)(r:Nat)(c:r<64)(e:ok bH N)(f:N≠[])(d:N.length<=100000000):run tab X 190 [.p (.list false kU (bI .u64 N)),Ab r] []=some ([.fresh false kU (bI .u64 (bG bH (val bH N*2^r)))],[]):=
 aY (hX _ rfl) (by
  have j:0<N.length:=List.length_pos_iff.2 f;have i:((r:Int)).tdiv 64=0:=by rw[Int.tdiv_eq_ediv_of_nonneg (by omega)];omega
  have h:((r:Int)).tmod 64=r:=by rw[Int.tmod_eq_emod_of_nonneg (by omega)];omega
  have w0:IntKind.i64.wrap 0=0:=by rfl
  have b:IntKind.i64.wrap ((N.length:Int)+0)=(N.length:Int):=by rw[wrap_eq (by omega) (by omega)];omega
  have a:IntKind.i64.wrap ((N.length:Int)+1)=((N.length+1:Nat):Int):=by rw[wrap_eq (by omega) (by omega)];omega
  have g:(leI (0:Int) (((N.length+1:Nat):Int))&&(leI (((N.length+1:Nat):Int)) (((N.length+1:Nat):Int))&&leI (((N.length+1:Nat):Int)) (2147483648:Int)))=true:=by simp;omega
  rw[e190];simp only[dI,i,h,w0,b,a];rw[show(((N.length:Nat):Int)==0)=false by simp;omega,qCf,g,qCt,qIt,lI];exact ax9 X hX hB N r c e d N.length 0 0 [] (by omega) rfl (yX _) (Nat.pow_pos (by decide)) (by simp[val]))
end
end
section
theorem orM{t m r:Nat}(a:t<2^(64-r))(b:r<=64):IntKind.u64.wrap (((BitVec.ofInt IntKind.u64.bits (t:Int)) |||(BitVec.ofInt IntKind.u64.bits ((m*2^(64-r)%bH:Nat):Int))).toNat:Nat)=((t+m%2^r*2^(64-r):Nat):Int)/\t+m%2^r*2^(64-r)<bH:=by
 have hB:2^(64-r)*2^r=bH:=by rw[<- Nat.pow_add,Nat.sub_add_cancel b]
 have e:m*2^(64-r)%bH=m%2^r*2^(64-r):=by grind[Nat.mul_mod_mul_left,Nat.mul_comm]
 have h:=orN (m:=m*2^(64-r)%bH) a (by omega) (qNm _ (by decide)) (by rw[e,Nat.mul_mod_left]);omega
section
variable (X:Ext) (hX:Mine X) (hB:Bits X)
include hX hB
theorem aya(N:List Nat)(r:Nat)(K:0<r)(I:r<64)(H:ok bH N)(J:N.length<=100000):∀(k i:Nat) (a:List Nat),i+k=N.length->a.length=i->ok bH a ->
    val bH a*2^r+N.getD 0 0%2^r=val bH (N.take i)+bH^i*(N.getD i 0%2^r) ->
    L tab (run tab X) 192 [] [.lp [1,1,1,1,0,1,0,1,0]] (pX (bI .u64 N) 0 r 0 N.length N.length i (bI .u64 (a++N.drop i)))=some ([.fresh false kU (bI .u64 (bG bH (val bH N / 2^r)))],[]):=by
  have _:=hB;intro k;induction k with
  | zero =>
   intro i a G hp c f;have h:i=N.length:=by omega
   subst h;refine dU ?_;rw[Jp];refine dR (by omega) ?_;rw[List.drop_length,List.append_nil];rw[pK _ _ _ (qNr _),show N.getD N.length 0=0 by rw[qLb,List.getElem?_eq_none (by omega)];rfl,Nat.zero_mod,Nat.mul_zero,Nat.add_zero]at f;have F:val bH N / 2^r=val bH a:=by rw[<- f,Nat.mul_comm,Nat.mul_add_div (Nat.pow_pos (by decide)),Nat.div_eq_of_lt (qNm _ (Nat.pow_pos (by decide))),Nat.add_zero]
   rw[F];exact zG X hX _ (by omega) c _ hp.symm
  | succ k B =>
   intro i a G hp c f;refine dU ?_;rw[Jp];refine fK (by omega) ?_;have s:(leI (0:Int) (i:Int)&&cu (i:Int) ((N.length:Nat):Int))=true:=by simp;omega
   have p:IntKind.i64.wrap ((i:Int)+1)=((i+1:Nat):Int):=by rw[wrap_eq (by omega) (by omega)];omega
   have n:IntKind.i64.wrap (0+(i:Int))=(i:Int):=by rw[wrap_eq (by omega) (by omega)];omega
   have o:IntKind.i64.wrap (64-(r:Int))=((64-r:Nat):Int):=by rw[wrap_eq (by omega) (by omega)];omega
   have y:(!cu (r:Int) 0)=true:=by simp
   have x:(!cu ((64-r:Nat):Int) 0)=true:=by simp
   have A:min r IntKind.u64.bits=r:=Nat.min_eq_left (show r<=64 by omega);have z:min (64-r) IntKind.u64.bits=64-r:=Nat.min_eq_left (show 64-r<=64 by omega);have D:N.getD i 0<bH:=jy H (by decide) i;have j:2^(64-r)*2^r=bH:=by rw[<- Nat.pow_add,Nat.sub_add_cancel (by omega)]
   have gt:(a++N.drop i).getD i 0=N.getD i 0:=by rw[qLb,List.getElem?_append_right (by omega),hp,Nat.sub_self,rQ (by omega)];rfl
   have st:∀ v,(a++N.drop i).set i v=(a++[v])++N.drop (i+1):=by intro v;rw[List.set_append,if_neg (by omega),hp,Nat.sub_self,rQ (by omega),List.append_assoc];rfl
   have l:∀ v,((a++[v])++N.drop (i+1)).getD i 0=v:=by simp_all
   have e:∀ v u,((a++[v])++N.drop (i+1)).set i u=(a++[u])++N.drop (i+1):=by simp_all
   have E:N.getD i 0 / 2^r<2^(64-r):=by rw[Nat.div_lt_iff_lt_mul (Nat.pow_pos (by decide)),j];exact D
   obtain⟨w,t⟩:=orM (m:=N.getD (i+1) 0) E (by omega);have b:L tab (run tab X) 192 [] [.lp [1,1,1,1,0,1,0,1,0]] (pX (bI .u64 N) 0 r 0 N.length N.length (i+1:Nat) (bI .u64 ((a++[N.getD i 0 / 2^r+N.getD (i+1) 0%2^r*2^(64-r)])++N.drop (i+1))))=some ([.fresh false kU (bI .u64 (bG bH (val bH N / 2^r)))],[]):=by refine B (i+1) _ (by omega) (by simp[hp]) (lG.2 ⟨c,λd hd=>by rw[List.mem_singleton.1 hd];exact t⟩) ?_;rw[nR,hp,uj,Nat.pow_succ];have M:=Nat.mod_add_div (N.getD i 0) (2^r);grind
   simp only[p,n,o];rw[s,y,qCt,qCt,qCt];simp only[qIt,iy,qNz,A,z,gt,TN,aib,lZ,st];by_cases g:((i+1:Nat):Int)<(N.length:Int)
   . refine fK g ?_;have q:(leI (0:Int) ((i+1:Nat):Int)&&cu ((i+1:Nat):Int) (((bI .u64 N).length:Nat):Int))=true:=by simp at g ⊢;omega
     rw[q,x,qCt,qCt,qCt,qCt];simp only[iy,l,w,lZ,e];exact b
   . refine dR g ?_;have C:N.getD (i+1) 0=0:=by rw[qLb,List.getElem?_eq_none (by omega)];rfl
     rw[C,Nat.zero_mod,Nat.zero_mul,Nat.add_zero]at b;exact b
theorem ayb(N:List Nat)(r:Nat)(e:r<64)(c:ok bH N)(b:N.length<=100000):run tab X 192 [.p (.list false kU (bI .u64 N)),Ab r] []=some ([.fresh false kU (bI .u64 (bG bH (val bH N / 2^r)))],[]):=
 aY (hX _ rfl) (by
  have g:((r:Int)).tdiv 64=0:=by rw[Int.tdiv_eq_ediv_of_nonneg (by omega)];omega
  have f:((r:Int)).tmod 64=r:=by rw[Int.tmod_eq_emod_of_nonneg (by omega)];omega
  have w0:IntKind.i64.wrap 0=0:=by rfl
  rw[atJ];simp only[dI,g,f,w0];by_cases d:N=[]
  . subst d;refine fK (by simp) ?_;show some ([AV.fresh false kU []],([]:List bZ))=_;rw[show val bH [] / 2^r=0 from Nat.zero_div _,gW];rfl
  . have h:0<N.length:=List.length_pos_iff.2 d;refine dR (by omega) ?_;rw[show(leI (0:Int) 0&&(leI 0 (N.length:Int)&&(leI (N.length:Int) (N.length:Int)&&leI (N.length:Int) (N.length:Int))))=true by simp,qCt];simp only[Int.toNat_zero,qLy,Int.sub_zero,qIt];rw[oK,List.take_length,hB.clone N b];simp only[qOb,qLh,dJ,dI];by_cases a:(r:Int) > 0
    . refine fK a ?_;have:=aya X hX hB N r (by omega) e c b N.length 0 [] (by omega) rfl (yX _) (by simp[val]);grind
    . refine dR a ?_;have:r=0:=by omega
      subst this;rw[Nat.pow_zero,Nat.div_one];exact zG X hX N (by omega) c _ rfl)
end
end
end Go.Skm.Fen
set_option maxRecDepth 100000
namespace Go.Skm.Fen
open Go Go.Skm Go.Skm.Dig
variable {k n y:Nat}
def bl(n:Nat):Nat:=(bG 2 n).length
theorem agv:bl 0=0:=by rw[bl,gW];rfl
theorem MR(n:Nat):n<2^bl n:=xY (by decide)
theorem agt(h:0<n):2^(bl n-1)<=n:=OB (by decide) h
theorem abf(h:0<n):0<bl n:=by
 rcases Nat.eq_zero_or_pos (bl n)with a | a
 . have:=MR n;rw[a]at this;omega
 . exact a
theorem JC(h:n<2^k):bl n<=k:=sQ (by decide) h
theorem akO{t:Nat}(b:n<2^t)(c:t≠0->2^(t-1)<=n):bl n=t:=by
 apply Nat.le_antisymm (JC b);rcases Nat.eq_zero_or_pos t with h | h
 . omega
 . rcases Nat.lt_or_ge (bl n) t with a | a
   . have h4:=MR n;have h5:2^bl n<=2^(t-1):=Nat.pow_le_pow_right (by decide) (by omega);omega
   . exact a
theorem aof(h:0<n / 2^k):bl n=k+bl (n / 2^k):=by
 have a:=MR (n / 2^k);have b:=agt h;have c:=abf h;refine akO ?_ λ_=>?_
 . rw[Nat.div_lt_iff_lt_mul (Nat.pow_pos (by decide)),<- Nat.pow_add,Nat.add_comm]at a;exact a
 . rw[Nat.le_div_iff_mul_le (Nat.pow_pos (by decide)),<- Nat.pow_add]at b;grind
abbrev tbl:ByteArray:=⟨#[0,1,2,2,3,3,3,3,4,4,4,4,4,4,4,4,5,5,5,5,5,5,5,5,5,5,5,5,5,5,5,5,6,6,6,6,6,6,6,6,6,6,6,6,6,6,6,6,6,6,6,6,6,6,6,6,6,6,6,6,6,6,6,6,7,7,7,7,7,7,7,7,7,7,7,7,7,7,7,7,7,7,7,7,7,7,7,7,7,7,7,7,7,7,7,7,7,7,7,7,7,7,7,7,7,7,7,7,7,7,7,7,7,7,7,7,7,7,7,7,7,7,7,7,7,7,7,7,8,8,8,8,8,8,8,8,8,8,8,8,8,8,8,8,8,8,8,8,8,8,8,8,8,8,8,8,8,8,8,8,8,8,8,8,8,8,8,8,8,8,8,8,8,8,8,8,8,8,8,8,8,8,8,8,8,8,8,8,8,8,8,8,8,8,8,8,8,8,8,8,8,8,8,8,8,8,8,8,8,8,8,8,8,8,8,8,8,8,8,8,8,8,8,8,8,8,8,8,8,8,8,8,8,8,8,8,8,8,8,8,8,8,8,8,8,8,8,8,8,8,8,8,8,8,8,8]⟩
theorem akP:∀ y,y<256->y<2^(tbl.data.getD y 0).toNat/\((tbl.data.getD y 0).toNat≠0->2^((tbl.data.getD y 0).toNat-1)<=y):=by decide +kernel
theorem aoh(h:y<256):(tbl.data.getD y 0).toNat=bl y:=(akO (akP y h).1 (akP y h).2).symm
theorem adB(h:y<bH):bl y<=64:=JC h
theorem Fa(k y:Nat)(a:y<256)(c:k<=56):(bif (leI (0:Int) (IntKind.u8.wrap (y:Int))&&cu (IntKind.u8.wrap (y:Int)) (tbl.size:Int))then some ([Ab (IntKind.i64.wrap ((k:Int)+(IntKind.i64.wrap ((tbl.data.getD ((IntKind.u8.wrap (y:Int)).toNat) 0).toNat:Int))))],([]:List bZ))else none)=some ([Ab ((k+bl y:Nat):Int)],[]):=by
 have w:IntKind.u8.wrap (y:Int)=(y:Int):=by show(y:Int)%2^8=y;omega
 have d:bl y<=8:=JC (by simpa using a);have b:(tbl.size:Int)=256:=by rfl
 rw[w,b,show(leI (0:Int) (y:Int)&&cu (y:Int) 256)=true by simp;omega,qCt,qIt,aoh a,wrap_eq (x:=((bl y:Nat):Int)) (by omega) (by omega),wrap_eq (by omega) (by omega),Int.natCast_add]
section
variable (X:Ext) (hX:Mine X)
include hX
theorem ayc(x:Nat)(e:x<bH):run tab X 170 [.p (.int .u64 x)] []=some ([Ab (bl x:Nat)],[]):=
 aY (hX _ rfl) (by
  have e:x<18446744073709551616:=e;have b:∀ k y:Nat,y<256->k<=56->y=x / 2^k->(k≠0->0<y)->some ([Ab ((k+bl y:Nat):Int)],([]:List bZ))=some ([Ab (bl x:Nat)],[]):=by
   intro k y _ _ d c;by_cases f:k=0
   . grind
   . have:=c f;rw[d]at this ⊢;rw[<- aof this]
  rw[e170];simp only[TN];by_cases d:(x:Int) >= 4294967296
  . refine fK d ?_;by_cases c:((x / 2^32:Nat):Int) >= 65536
    . refine fK c ?_;by_cases a:((x / 2^32 / 2^16:Nat):Int) >= 256
      . refine fK a ?_;exact(Fa 56 (x / 2^32 / 2^16 / 2^8) (by omega) (by omega)).trans (b 56 _ (by omega) (by omega) (by omega) (by omega))
      . refine dR a ?_;exact(Fa 48 (x / 2^32 / 2^16) (by omega) (by omega)).trans (b 48 _ (by omega) (by omega) (by omega) (by omega))
    . refine dR c ?_;by_cases a:((x / 2^32:Nat):Int) >= 256
      . refine fK a ?_;exact(Fa 40 (x / 2^32 / 2^8) (by omega) (by omega)).trans (b 40 _ (by omega) (by omega) (by omega) (by omega))
      . refine dR a ?_;exact(Fa 32 (x / 2^32) (by omega) (by omega)).trans (b 32 _ (by omega) (by omega) (by omega) (by omega))
  . refine dR d ?_;by_cases c:(x:Int) >= 65536
    . refine fK c ?_;by_cases a:((x / 2^16:Nat):Int) >= 256
      . refine fK a ?_;exact(Fa 24 (x / 2^16 / 2^8) (by omega) (by omega)).trans (b 24 _ (by omega) (by omega) (by omega) (by omega))
      . refine dR a ?_;exact(Fa 16 (x / 2^16) (by omega) (by omega)).trans (b 16 _ (by omega) (by omega) (by omega) (by omega))
    . refine dR c ?_;by_cases a:(x:Int) >= 256
      . refine fK a ?_;exact(Fa 8 (x / 2^8) (by omega) (by omega)).trans (b 8 _ (by omega) (by omega) (by omega) (by omega))
      . refine dR a ?_;exact(Fa 0 x (by omega) (by omega)).trans (b 0 _ (by omega) (by omega) (by omega) (by omega)))
theorem an8(x:Nat)(a:x<bH):run tab X 153 [.p (.int .u64 x)] []=some ([Ab (64-bl x:Nat)],[]):=
 aY (hX _ rfl) (by have:=adB a;rw[e153,ayc X hX x a];simp only[qOb,qLh,bV,toInt_int];rw[wrap_eq (by omega) (by omega),show(64:Int)-((bl x:Nat):Int)=((64-bl x:Nat):Int) by omega])
variable (hB:Bits X)
include hB
theorem aoa(N:List Nat)(f:ok bH N)(i:Dig.tight N)(s:N.length<=100000000):run tab X 112 [.p (.list false kU (bI .u64 N))] []=some ([Ab (bl (val bH N):Nat)],[]):=
 aY (hX _ rfl) (by
  have _:=hB;rw[atb];simp only[dI];by_cases g:N=[]
  . subst g;rw[show val bH []=0 from rfl,agv];rfl
  . have t:0<N.length:=List.length_pos_iff.2 g;rw[show(((N.length:Nat):Int)==0)=false by simp;omega,qCf,wrap_eq (x:=(N.length:Int)-1) (by omega) (by omega),show(N.length:Int)-1=((N.length-1:Nat):Int) by omega];have h:(leI (0:Int) ((N.length-1:Nat):Int)&&cu ((N.length-1:Nat):Int) ((N.length:Nat):Int))=true:=by simp;omega
    have c:N.getD (N.length-1) 0<bH:=jy f (by decide) _;rw[h,qCt,qIt,iy,an8 X hX _ c];simp only[qOb,qLh,bV,toInt_int];have m:=adB c;have a:0<N.getD (N.length-1) 0:=by
     have o:N.getLast?=some (N.getD (N.length-1) 0):=by grind
     exact Nat.pos_of_ne_zero (i _ o)
    have j:=abf a;have e:bl (val bH N)=64*(N.length-1)+bl (N.getD (N.length-1) 0):=by
     have d:=Me bH N (N.length-1) (by omega);rw[List.drop_eq_nil_of_le (show N.length<=N.length-1+1 by omega),show val bH []=0 from rfl,Nat.mul_zero,Nat.add_zero]at d;have b:=rU (Lp f (N.length-1));rw[List.length_take,Nat.min_eq_left (by omega)]at b;have l:bH^(N.length-1)=2^(64*(N.length-1)):=by rw[Nat.pow_mul]
     rw[l]at d b;have r:=MR (N.getD (N.length-1) 0);have q:=agt a;refine akO ?_ λ_=>?_
     . rw[Nat.pow_add];have:=Nat.mul_le_mul_left (2^(64*(N.length-1))) r;grind
     . rw[show 64*(N.length-1)+bl (N.getD (N.length-1) 0)-1=64*(N.length-1)+(bl (N.getD (N.length-1) 0)-1) by omega,Nat.pow_add];have:=Nat.mul_le_mul_left (2^(64*(N.length-1))) q;omega
    rw[e,wrap_eq (x:=(N.length:Int)*64) (by omega) (by omega),wrap_eq (by omega) (by omega),show(N.length:Int)*64-((64-bl (N.getD (N.length-1) 0):Nat):Int)=((64*(N.length-1)+bl (N.getD (N.length-1) 0):Nat):Int) by omega])
end
end Go.Skm.Fen
namespace Go.Skm.Dig
variable {L R W l:List Nat}{B D b j k n:Nat}
theorem Dz(h:k<l.length):l.drop k=l.getD k 0::l.drop (k+1):=by simp_all
theorem OC(b:Nat)(l:List Nat)(k:Nat)(h:k<=l.length):val b l=val b (l.take k)+b^k*val b (l.drop k):=by
 conv=>lhs;rw[<- List.take_append_drop k l]
 grind[val_append,List.length_take]
theorem ain(h:ok b l)(i:Nat):ok b (l.take i):=λd hd=>h d (List.mem_of_mem_take hd)
theorem aoC(h:ok b l)(i:Nat):ok b (l.drop i):=λd hd=>h d (List.mem_of_mem_drop hd)
theorem afl(o:0<B)(a:R.length=n+1)(g:j+k<=n)(f:val B R<B^(j+1)*D)(i:D<=B^k) :
    val B R=val B (R.take j)+B^j*val B ((R.drop j).take (k+1))/\val B ((R.drop j).take (k+1))<B*D:=by
  have d:=OC B R j (by omega);have c:=OC B (R.drop j) (k+1) (by simp;omega);have e:val B ((R.drop j).drop (k+1))=0:=by
   rcases Nat.eq_zero_or_pos (val B ((R.drop j).drop (k+1)))with h | h
   . exact h
   . exfalso;have m:B^(k+1)<=val B (R.drop j):=by have:=Nat.mul_le_mul_left (B^(k+1)) h;omega
     have q:B^j*B^(k+1)<=B^j*val B (R.drop j):=Nat.mul_le_mul_left _ m;have p:B^(j+1)*D<=B^j*B^(k+1):=by rw[Nat.pow_succ,Nat.pow_succ',Nat.mul_assoc];exact Nat.mul_le_mul_left _ (Nat.mul_le_mul_left _ i)
     omega
  rw[e,Nat.mul_zero,Nat.add_zero]at c;rw[c]at d;refine⟨d,?_⟩;have:B^j*val B ((R.drop j).take (k+1))<B^j*(B*D):=by grind
  exact Nat.lt_of_mul_lt_mul_left this
theorem akT(g:0<B)(a:ok B W)(c:W.length=k+1)(f:0<k):val B W<(W.getD k 0*B+W.getD (k-1) 0+1)*B^(k-1):=by have d:=OC B W (k-1) (by omega);rw[Dz (l:=W) (k:=k-1) (by omega),show k-1+1=k by omega,Dz (l:=W) (k:=k) (by omega),List.drop_eq_nil_of_le (show W.length<=k+1 by omega)]at d;have e:=rU (ain a (k-1));rw[List.length_take,Nat.min_eq_left (by omega)]at e;rw[d];show _+B^(k-1)*(W.getD (k-1) 0+B*(W.getD k 0+B*0))<_;grind
theorem top_le{D:List Nat}(a:D.length=k)(d:0<k):D.getD (k-1) 0*B^(k-1)<=val B D:=by have c:=OC B D (k-1) (by omega);rw[Dz (l:=D) (k:=k-1) (by omega)]at c;rw[c];show _<=_+B^(k-1)*(D.getD (k-1) 0+B*val B (D.drop (k-1+1)));grind
def guess(B t s d:Nat):Nat:=if t<d then(t*B+s) / d else B-1
theorem aio{D:List Nat}(d:0<B)(f:ok B W)(i:W.length=k+1)(hd:D.length=k)(e:0<k)(hp:0<D.getD (k-1) 0)(c:val B W<B*val B D) :
    val B W / val B D<=guess B (W.getD k 0) (W.getD (k-1) 0) (D.getD (k-1) 0)/\guess B (W.getD k 0) (W.getD (k-1) 0) (D.getD (k-1) 0)<B:=by
  have g:=top_le (B:=B) hd e;have a:0<val B D:=Nat.lt_of_lt_of_le (Nat.mul_pos hp (Nat.pow_pos d)) g;have o:val B W / val B D<B:=by rw[Nat.div_lt_iff_lt_mul a];exact c
  rw[guess];by_cases h:W.getD k 0<D.getD (k-1) 0
  . rw[if_pos h];refine⟨akS hp g (akT d f i e) d,?_⟩;rw[Nat.div_lt_iff_lt_mul hp];have m:W.getD (k-1) 0<B:=by rw[List.getD_eq_getElem?_getD,List.getElem?_eq_getElem (by omega)];exact f _ (List.getElem_mem _)
    have:=Nat.mul_le_mul_right B h;grind
  . grind
theorem Zr(B:Nat)(l:List Nat)(n:Nat):val B (l++List.replicate n 0)=val B l:=by rw[val_append,F7];simp
def Ji(R:List Nat)(j k:Nat)(L:List Nat):List Nat:=R.take j++(L++List.replicate (k+1-L.length) 0)++R.drop (j+(k+1))
theorem Zt(a:R.length=n+1)(c:j+k<=n)(d:L.length<=k+1):(Ji R j k L).length=n+1:=by grind[Ji]
theorem aip(e:0<B)(a:ok B R)(c:ok B L):ok B (Ji R j k L):=
 lG.2 ⟨lG.2 ⟨ain a j,lG.2 ⟨c,λd hd=>by rw[List.eq_of_mem_replicate hd];exact e⟩⟩,aoC a _⟩
theorem agz{g:Nat}(u:0<B)(t:ok B R)(f:R.length=n+1)(p:j+k<=n)(o:val B R<B^(j+1)*D)(q:D<=B^k)(hp:0<D)(w:L.length<=k+1)
    (s:g=val B ((R.drop j).take (k+1)) / D)(v:val B L=val B ((R.drop j).take (k+1))-D*g) :
    val B R=val B (Ji R j k L)+B^j*(g*D)/\val B (Ji R j k L)<B^j*D:=by
  obtain⟨y,x⟩:=afl u f p o q;have r:val B (R.drop (j+(k+1)))=0:=by
   have a:=OC B R (j+(k+1)) (by omega);rcases Nat.eq_zero_or_pos (val B (R.drop (j+(k+1))))with h | h
   . exact h
   . exfalso;have A:=Nat.mul_le_mul_left (B^(j+(k+1))) h;have z:B^(j+1)*D<=B^(j+(k+1)):=by rw[show j+(k+1)=j+1+k by omega,Nat.pow_add B (j+1) k];exact Nat.mul_le_mul_left _ q
     omega
  have e:val B (Ji R j k L)=val B (R.take j)+B^j*val B L:=by rw[Ji,val_append,r,Nat.mul_zero,Nat.add_zero,val_append,Zr,List.length_take,Nat.min_eq_left (by omega)]
  have c:=Nat.div_add_mod (val B ((R.drop j).take (k+1))) D;have m:=Nat.mod_lt (val B ((R.drop j).take (k+1))) hp;rw[<- s]at c;have i:val B L=val B ((R.drop j).take (k+1))%D:=by omega
  have d:=rU (ain t j);rw[List.length_take,Nat.min_eq_left (by omega)]at d;constructor
  . grind
  . rw[e,i];have:=Nat.mul_le_mul_left (B^j) m;grind
end Go.Skm.Dig
namespace Go.Skm.Fen
open Go Go.Skm Go.Skm.Dig
theorem Ox(k:IntKind)(b v:List Nat)(o:Nat):patch (bI k b) o (bI k v)=bI k (b.take o++v++b.drop (o+v.length)):=by simp[patch,oK,Zm,AB,dI]
theorem TP(R L:List Nat)(j k n:Nat)(a:R.length=n+1)(d:j+k<=n)(e:L.length<=k+1) :
    patch (patch (bI .u64 R) j (List.replicate (k+1) (PV.int .u64 0))) j ((((bI .u64 L).drop 0).take (bI .u64 L).length).take (Nat.min (bI .u64 L).length (k+1)))=bI .u64 (Ji R j k L):=by
  rw[qLy,List.take_length,dI,List.take_of_length_le (by rw[dI];exact Nat.le_min.2 ⟨qNr _,e⟩),lI,Ox,Ox];congr 1;have f:(R.take j).length=j:=by simp;omega
  have c:(R.take j++List.replicate (k+1) 0++R.drop (j+(k+1))).take j=R.take j:=by rw[List.append_assoc,List.take_left' f]
  have b:(R.take j++List.replicate (k+1) 0++R.drop (j+(k+1))).drop (j+L.length)=List.replicate (k+1-L.length) 0++R.drop (j+(k+1)):=by simp_all[List.append_assoc,List.drop_append,List.nil_append,List.length_replicate,qLy,List.drop_replicate]
  rw[Ji,List.length_replicate,c,b,List.append_assoc,List.append_assoc,List.append_assoc]
theorem afj(x:List Nat)(l:Nat):x.take (trim (x.take l)).length=trim (x.take l):=by have a:=uO (x.take l);grind
theorem trimmed(b:List Nat)(a:ok bH b)(o l:Nat):((bI .u64 b).drop o).take (trim ((b.drop o).take l)).length=bI .u64 (bG bH (val bH ((b.drop o).take l))):=by rw[Zm,oK,afj,<- uF b64 (Lp (agw a o) l) rfl]
theorem whole(x:List Nat):((bI .u64 x).drop 0).take x.length=bI .u64 x:=by rw[qLy,<- dI .u64 x,List.take_length]
theorem lF{n k:Nat}(h:n<bH^k):(bG bH n).length<=k:=sQ b64 h
theorem Ho(n:Nat):ok bH (bG bH n):=BZ b64 n
theorem dval(n:Nat):val bH (bG bH n)=n:=sO b64 n
theorem KO(n:Nat):Dig.tight (bG bH n):=yY b64 n
theorem Es(a b:Nat):cmpL bH (bG bH a) (bG bH b)<0↔a<b:=by rw[amu b64 (Ho a) (Ho b) (KO a) (KO b),dval,dval]
section
variable (X:Ext) (hX:Mine X) (hB:Bits X)
include hX hB
theorem asn(z:Nat)(D R Q:List Nat)(n j k e:Nat)(G:n<=10000000)(v:ok bH D)(u:Dig.tight D)(m:D.length=k)(i:0<val bH D)(p:ok bH R)(c:R.length=n+1)(f:j+k<=n)(F:j<e)(H:Q.length=e)
    (E:val bH ((R.drop j).take (k+1))<bH*val bH D)(r:List AV × List bZ)
    (K:L tab (run tab X) 186 [] [.lp [1,1,1,1,1,1,1,1,0,1,0]] (pW z 0 k 0 (n+1) k 0 e ((j:Int)-1) (bI .u64 D) (bI .u64 (Ji R j k (bG bH (val bH ((R.drop j).take (k+1))-val bH D*(val bH ((R.drop j).take (k+1)) / val bH D))))) (bI .u64 (Q.set j (val bH ((R.drop j).take (k+1)) / val bH D))))=some r) :
    ∀ g,val bH ((R.drop j).take (k+1)) / val bH D<=g->g<bH ->
    L tab (run tab X) 186 [] [.lp [1,1,1,1,1,1,1,1,0,1,0],.lp [1,0,0,1,1,1,1,0,0]] (je z 0 k 0 (n+1) k 0 e j g j (k+1) 0 (bG bH (val bH D*g)).length (bI .u64 D) (bI .u64 R) (bI .u64 Q) (bI .u64 (bG bH (val bH D*g))))=some r:=by
  have _:=hB;have l:val bH D<bH^k:=by rw[<- m];exact rU v
  have a:val bH ((R.drop j).take (k+1))<bH^(k+1):=by grind
  have d:∀ g,g<bH->(bG bH (val bH D*g)).length<=k+1:=by intro g y;refine lF ?_;rw[Nat.pow_succ];exact Nat.mul_lt_mul'' l y
  intro g;induction g with
  | zero =>
   intro w o;have C:val bH ((R.drop j).take (k+1)) / val bH D=0:=Nat.eq_zero_of_le_zero w;refine dU ?_;rw[tJ,abe X hX R (by omega) j (k+1) (by omega)];simp only[qOb,qLh,yF,kL,kM];rw[trimmed R p,whole,c156 X hX _ _ (Ho _) (Ho _) (Nat.le_trans (lF a) (by omega)) (Nat.le_trans (d _ o) (by omega))];simp only[qOb,qLh,bV,toInt_int];refine dR (by rw[Es,Nat.mul_zero];exact Nat.not_lt_zero _) ?_;rw[abe X hX R (by omega) j (k+1) (by omega)];simp only[qOb,qLh,yF,kL,kM];rw[trimmed R p,c157 X hX _ _ (Ho _) (Ho _) (Nat.le_trans (lF a) (by omega)) (by rw[Nat.mul_zero,gW];simp) (by rw[Nat.mul_zero,gW];exact Nat.zero_le _)];simp only[qOb,qLh,dJ,dval,qIt,qNz];have q:(leI (0:Int) (j:Int)&&cu (j:Int) (e:Int))=true:=by simp;omega
   rw[q,qCt,wrap_eq (by omega) (by omega),TP R _ j k n c f (lF (Nat.lt_of_le_of_lt (Nat.sub_le _ _) a))];grind[lZ]
  | succ g B =>
   intro w o;refine dU ?_;rw[tJ,abe X hX R (by omega) j (k+1) (by omega)];simp only[qOb,qLh,yF,kL,kM];rw[trimmed R p,whole,c156 X hX _ _ (Ho _) (Ho _) (Nat.le_trans (lF a) (by omega)) (Nat.le_trans (d _ o) (by omega))];simp only[qOb,qLh,bV,toInt_int];by_cases b:val bH ((R.drop j).take (k+1))<val bH D*(g+1)
   . refine fK (by rw[Es];exact b) ?_;obtain⟨_,A⟩:=ail i b;have s:val bH D<=val bH D*(g+1):=Nat.le_mul_of_pos_right _ (by omega);have t:((bI .u64 D).drop 0).take k=bI .u64 D:=by rw[<- m];exact whole D
     have x:D.length<=(bG bH (val bH D*(g+1))).length:=by
      rcases Nat.lt_or_ge (bG bH (val bH D*(g+1))).length D.length with h | h
      . exfalso;have:=GV b64 (Ho _) v u h;grind[dval]
      . exact h
     rw[t,c157 X hX _ _ (Ho _) v (Nat.le_trans (d _ o) (by omega)) x (by rw[dval];exact s)];simp only[qOb,qLh,dJ,dval,dI];rw[show((g+1:Nat):Int)-1=(g:Int) by omega,pF (Nat.lt_of_succ_lt o),show val bH D*(g+1)-val bH D=val bH D*g by rw[Nat.mul_succ,Nat.add_sub_cancel]];grind
   . refine dR (by rw[Es];exact b) ?_;have y:=aik i w (Nat.le_of_not_lt b);rw[abe X hX R (by omega) j (k+1) (by omega)];simp only[qOb,qLh,yF,kL,kM];have hlen2:(bG bH (val bH D*(g+1))).length<=(bG bH (val bH ((R.drop j).take (k+1)))).length:=by
      rcases Nat.lt_or_ge (bG bH (val bH ((R.drop j).take (k+1)))).length (bG bH (val bH D*(g+1))).length with h | h
      . exfalso;have:=GV b64 (Ho _) (Ho _) (KO _) h;grind[dval]
      . exact h
     rw[trimmed R p,c157 X hX _ _ (Ho _) (Ho _) (Nat.le_trans (lF a) (by omega)) hlen2 (by rw[dval,dval];exact Nat.le_of_not_lt b)];simp only[qOb,qLh,dJ,dval,qIt,qNz];have q:(leI (0:Int) (j:Int)&&cu (j:Int) (e:Int))=true:=by simp;omega
     rw[q,qCt,wrap_eq (by omega) (by omega),TP R _ j k n c f (lF (Nat.lt_of_le_of_lt (Nat.sub_le _ _) a))];grind[lZ]
end
end Go.Skm.Fen
