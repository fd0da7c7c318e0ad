import Derived.Test.YtoheflpoanjihaaGreatW4
namespace Go.Skm.Fen
open Go Go.Skm Go.Skm.Dig
theorem Oq (x k:Nat):(x:Int).fdiv (2 ^ k)=((x / 2 ^ k:Nat):Int):=by rw[Int.fdiv_eq_ediv_of_nonneg _ (by exact Int.le_of_lt (Int.pow_pos (by decide)))];norm_cast
theorem ade (x k:Nat):IntKind.u64.wrap ((x:Int)*2 ^ k)=((x*2 ^ k%aZ:Nat):Int):=by show ((x:Int)*2 ^ k)%2 ^ 64=_;norm_cast
theorem orN {t m r:Nat} (ht:t<2 ^ r) (hr:r≤64) (hm:m<aZ) (hd:m%2 ^ r=0):IntKind.u64.wrap (((BitVec.ofInt IntKind.u64.bits (t:Int)) ||| (BitVec.ofInt IntKind.u64.bits (m:Int))).toNat:Nat)=((t+m:Nat):Int)∧t+m<aZ:=by
 have hB:2 ^ r*2 ^ (64-r)=aZ:=by rw[← Nat.pow_add,Nat.add_sub_cancel' hr]
 have ht2:t<2 ^ 64:=Nat.lt_of_lt_of_le ht (Nat.pow_le_pow_right (by decide) hr);have hmd:m=2 ^ r*(m / 2 ^ r):=by have:=Nat.mod_add_div m (2 ^ r);omega
 have hq:m / 2 ^ r<2 ^ (64-r):=by rw[Nat.div_lt_iff_lt_mul (Nat.pow_pos (by decide)),Nat.mul_comm,hB];exact hm
 have hlt:t+m<aZ:=by have:2 ^ r*(m / 2 ^ r+1)≤2 ^ r*2 ^ (64-r):=Nat.mul_le_mul_left _ hq;rw[hB,Nat.mul_add,Nat.mul_one,← hmd]at this;omega
 refine⟨?_,hlt⟩;show IntKind.u64.wrap (((BitVec.ofInt 64 (t:Int)) ||| (BitVec.ofInt 64 (m:Int))).toNat:Nat)=_;rw[BitVec.ofInt_natCast,BitVec.ofInt_natCast,BitVec.toNat_or,BitVec.toNat_ofNat,BitVec.toNat_ofNat,Nat.mod_eq_of_lt ht2,Nat.mod_eq_of_lt (show m<2 ^ 64 from hm),Nat.or_comm];have h2:m ||| t=m+t:=by rw[hmd];exact(Nat.two_pow_add_eq_or_of_lt ht _).symm
 rw[h2,Nat.add_comm m t,nJ hlt]
theorem YU (suf:List Nat) (k v:Nat):(List.replicate (k+1) 0++suf).set k v=List.replicate k 0++v::suf:=by rw[List.replicate_succ',List.append_assoc,List.set_append,if_neg (by simp),List.length_replicate,Nat.sub_self];rfl
section
variable (X:Ext) (hX:Mine X) (hB:Bits X)
include hX hB
theorem aql (N : List Nat) (d : Nat) (hN : ok aZ N) (hd : 0 < d) (hd2 : d < aZ) (hn : N.length ≤ 100000000) : ∀ (k r : Nat) (suf : List Nat),k ≤ N.length → suf.length = N.length - k → ok aZ suf → r < d →
    val aZ (N.drop k)=val aZ suf*d+r →
    L tab (run tab X) 189 [] [.lp [1,1,1,0,1,0]] (Bl (bP .u64 N) d 0 N.length r ((k:Int)-1) (bP .u64 (List.replicate k 0++suf)))=some ([.fresh false kU (bP .u64 (bK aZ (val aZ N / d))),.p (.int .u64 (val aZ N%d:Nat))],[]):=by
  intro k;induction k with
  | zero =>
   intro r suf _ hs hok hr hv;refine dW ?_;rw[NG];refine dO (by simp) ?_;rw[List.drop_zero]at hv;have hq:val aZ N / d=val aZ suf:=by rw[hv,Nat.mul_comm,Nat.mul_add_div hd,Nat.div_eq_of_lt hr,Nat.add_zero]
   have hm:val aZ N%d=r:=by rw[hv,Nat.mul_comm,Nat.mul_add_mod,Nat.mod_eq_of_lt hr]
   rw[hq,hm,List.replicate_zero,List.nil_append];have hlen:N.length=suf.length:=by omega
   rw[hlen,WM X hX suf (by omega) 0 _ (by omega),List.drop_zero,List.take_length,← zG b64 hok rfl];show some ([AV.fresh false kU (((bP .u64 suf).drop 0).take (trim suf).length),_],([]:List cu))=_;rw[List.drop_zero,wO,wL]
  | succ k ih =>
   intro r suf hk hs hok hr hv;refine dW ?_;rw[show ((k+1:Nat):Int)-1=(k:Int) by omega,NG];refine fF (by omega) ?_;have r1:(leI (0:Int) (k:Int)&&dG (k:Int) (((bP .u64 N).length:Nat):Int))=true:=by simp;omega
   have r2:(leI (0:Int) (k:Int)&&dG (k:Int) ((N.length:Nat):Int))=true:=by simp;omega
   have w1:IntKind.i64.wrap ((k:Int)-1)=(k:Int)-1:=wrap_eq (by omega) (by omega);have hy:N.getD k 0<aZ:=jL hN (by decide) k;rw[r1,cond_true];simp only[Int.toNat_natCast,gK,w1,hB.w.div r _ d hr hy hd2,Option.bind_some,List.headD_cons,List.tail_cons,dA,toInt_int,Nat.zero_add];rw[r2,cond_true,lZ,YU];have hlt:r*aZ+N.getD k 0<aZ*d:=by have h1:aZ*(r+1)≤aZ*d:=Nat.mul_le_mul_left _ hr;rw[Nat.mul_add,Nat.mul_one,Nat.mul_comm]at h1;exact Nat.lt_of_lt_of_le (Nat.add_lt_add_left hy _) h1
   refine ih _ _ (by omega) (by simp;omega) ?_ (Nat.mod_lt _ hd) ?_
   · intro e he;rcases List.mem_cons.1 he with h | h
     · rw[h,Nat.div_lt_iff_lt_mul hd];exact hlt
     · exact hok e h
   · rw[rD (l:=N) (k:=k) (by omega)];show N.getD k 0+aZ*val aZ (N.drop (k+1))=((r*aZ+N.getD k 0) / d+aZ*val aZ suf)*d+(r*aZ+N.getD k 0)%d;rw[hv];have e:=Nat.div_add_mod (r*aZ+N.getD k 0) d;revert e;generalize (r*aZ+N.getD k 0) / d=q;generalize (r*aZ+N.getD k 0)%d=s;generalize aZ=B;intro e;grind
theorem ap5 (N:List Nat) (d:Nat) (hN:ok aZ N) (hd:0<d) (hd2:d<aZ) (hn:N.length≤100000000):run tab X 189 [.p (.list false kU (bP .u64 N)),.p (.int .u64 d)] []=some ([.fresh false kU (bP .u64 (bK aZ (val aZ N / d))),.p (.int .u64 (val aZ N%d:Nat))],[]) :=
 bF (hX _ rfl) (by
  have go:(leI (0:Int) (((N.length:Nat):Int))&&(leI (((N.length:Nat):Int)) (((N.length:Nat):Int))&&leI (((N.length:Nat):Int)) (2147483648:Int)))=true:=by simp;omega
  rw[e189];simp only[dI];rw[go,cond_true,Int.toNat_natCast,l9,wrap_eq (by omega) (by omega)];have:=aql X hX hB N d hN hd hd2 hn N.length 0 [] (Nat.le_refl _) (by simp) (wo _) hd (by rw[List.drop_length];simp[val]);rwa[List.append_nil]at this)
theorem aqm (N : List Nat) (r : Nat) (hr : r < 64) (hN : ok aZ N) (hn : N.length ≤ 100000000) : ∀ (k i t : Nat) (pre : List Nat),i + k = N.length → pre.length = i → ok aZ pre → t < 2 ^ r →
    val aZ (pre++[t])=val aZ (N.take i)*2 ^ r →
    L tab (run tab X) 190 [] [.lp [1,1,1,1,0,1,0]] (qW 0 r 0 (N.length+1) (bP .u64 N) N.length i (bP .u64 (pre++t::List.replicate (N.length-i) 0)))=some ([.fresh false kU (bP .u64 (bK aZ (val aZ N*2 ^ r)))],[]):=by
  have _:=hB;intro k;induction k with
  | zero =>
   intro i t pre hi hp hok ht hv;have hin:i=N.length:=by omega
   subst hin;refine dW ?_;rw[J6];refine dO (by omega) ?_;rw[Nat.sub_self,List.replicate_zero];rw[rE _ _ _ (Nat.le_refl _)]at hv;rw[← hv];refine wY X hX _ (by simp;omega) (jQ.2 ⟨hok,fun d hd=>?_⟩) _ (by simp[hp]);rw[List.mem_singleton.1 hd];exact Nat.lt_of_lt_of_le ht (Nat.pow_le_pow_right (n:=2) (by decide) (show r≤64 by omega))
  | succ k ih =>
   intro i t pre hi hp hok ht hv;refine dW ?_;rw[J6];refine fF (by omega) ?_;have r1:(leI (0:Int) (i:Int)&&dG (i:Int) (((bP .u64 N).length:Nat):Int))=true:=by simp;omega
   have r2:(leI (0:Int) (i:Int)&&dG (i:Int) ((N.length+1:Nat):Int))=true:=by simp;omega
   have r3:(leI (0:Int) ((i+1:Nat):Int)&&dG ((i+1:Nat):Int) ((N.length+1:Nat):Int))=true:=by simp;omega
   have w0:IntKind.i64.wrap ((i:Int)+0)=(i:Int):=by rw[wrap_eq (by omega) (by omega)];omega
   have w1:IntKind.i64.wrap ((i:Int)+1)=((i+1:Nat):Int):=by rw[wrap_eq (by omega) (by omega)];omega
   have w2:IntKind.i64.wrap (64-(r:Int))=((64-r:Nat):Int):=by rw[wrap_eq (by omega) (by omega)];omega
   have n1:(!dG (r:Int) 0)=true:=by simp
   have n2:(!dG ((64-r:Nat):Int) 0)=true:=by simp
   have m1:min r IntKind.u64.bits=r:=Nat.min_eq_left (show r≤64 by omega);have m2:min (64-r) IntKind.u64.bits=64-r:=Nat.min_eq_left (show 64-r≤64 by omega);have hx:N.getD i 0<aZ:=jL hN (by decide) i;have hB2:2 ^ r*2 ^ (64-r)=aZ:=by rw[← Nat.pow_add,Nat.add_sub_cancel' (by omega)]
   have gt:(pre++t::List.replicate (N.length-i) 0).getD i 0=t:=by rw[qLb,List.getElem?_append_right (by omega),hp,Nat.sub_self];rfl
   have hdv:N.getD i 0*2 ^ r%aZ%2 ^ r=0:=by rw[← hB2,Nat.mod_mul_right_mod,Nat.mul_mod_left]
   obtain⟨o1,o2⟩:=orN ht (by omega) (Nat.mod_lt (N.getD i 0*2 ^ r) (show 0<aZ by decide)) hdv;have hsp:N.getD i 0*2 ^ r=N.getD i 0*2 ^ r%aZ+aZ*(N.getD i 0 / 2 ^ (64-r)):=by
    have h1:=Nat.mod_add_div (N.getD i 0*2 ^ r) aZ;have h2:N.getD i 0*2 ^ r / aZ=N.getD i 0 / 2 ^ (64-r):=by rw[← hB2,Nat.mul_comm (N.getD i 0),Nat.mul_div_mul_left _ _ (Nat.pow_pos (by decide))]
    rw[h2]at h1;exact h1.symm
   have ht':N.getD i 0 / 2 ^ (64-r)<2 ^ r:=by rw[Nat.div_lt_iff_lt_mul (Nat.pow_pos (by decide)),hB2];exact hx
   have key:L tab (run tab X) 190 [] [.lp [1,1,1,1,0,1,0]] (qW 0 r 0 (N.length+1) (bP .u64 N) N.length (i+1:Nat) (bP .u64 ((pre++[t+N.getD i 0*2 ^ r%aZ])++(N.getD i 0 / 2 ^ (64-r))::List.replicate (N.length-(i+1)) 0)))=some ([.fresh false kU (bP .u64 (bK aZ (val aZ N*2 ^ r)))],[]):=by refine ih (i+1) _ _ (by omega) (by simp[hp]) (jQ.2 ⟨hok,fun d hd=>by rw[List.mem_singleton.1 hd];exact o2⟩) ht' ?_;rw[lT,lT,List.length_append,List.length_singleton,hp,qH,Nat.add_mul,← hv,lT,hp,Nat.mul_assoc,congrArg (aZ ^ i*·) hsp,Nat.pow_succ];show _=_+aZ ^ i*(N.getD i 0*2 ^ r%aZ+aZ*(N.getD i 0 / 2 ^ (64-r)));generalize N.getD i 0*2 ^ r%aZ=u;generalize N.getD i 0 / 2 ^ (64-r)=v;generalize aZ ^ i=P;generalize aZ=B;grind
   have s1:(bP .u64 (pre++t::List.replicate (N.length-i) 0)).set i (.int .u64 ((t+N.getD i 0*2 ^ r%aZ:Nat):Int))=bP .u64 ((pre++[t+N.getD i 0*2 ^ r%aZ])++List.replicate (N.length-i) 0):=by rw[lZ,List.set_append,if_neg (by omega),hp,Nat.sub_self,List.append_assoc];rfl
   simp only[w0,w1,w2];rw[r1,r2,n1,cond_true,cond_true,cond_true,cond_true];simp only[Int.toNat_natCast,gK,Nat.zero_add,m1,m2,gt,ade,o1,s1,Oq];by_cases h0:(r:Int) > 0
   · refine fF h0 ?_;rw[n2,r3,cond_true,cond_true,show N.length-i=(N.length-(i+1))+1 by omega,show i+1=(pre++[t+N.getD i 0*2 ^ r%aZ]).length by simp[hp],lZ,set_mid,List.append_assoc];simp only[List.length_append,List.length_singleton,hp,List.append_assoc]at key ⊢;exact key
   · refine dO h0 ?_;have hr0:r=0:=by omega
     subst hr0;have hz:N.getD i 0 / 2 ^ (64-0)=0:=Nat.div_eq_of_lt hx;rw[hz]at key;rw[show N.length-i=(N.length-(i+1))+1 by omega,List.replicate_succ];exact key
theorem alq (N:List Nat) (r:Nat) (hr:r<64) (hN:ok aZ N) (h0:N≠[]) (hn:N.length≤100000000):run tab X 190 [.p (.list false kU (bP .u64 N)),.p (.int .i64 r)] []=some ([.fresh false kU (bP .u64 (bK aZ (val aZ N*2 ^ r)))],[]) :=
 bF (hX _ rfl) (by
  have hl:0<N.length:=List.length_pos_iff.2 h0;have d0:((r:Int)).tdiv 64=0:=by rw[Int.tdiv_eq_ediv_of_nonneg (by omega)];omega
  have d1:((r:Int)).tmod 64=r:=by rw[Int.tmod_eq_emod_of_nonneg (by omega)];omega
  have w0:IntKind.i64.wrap 0=0:=by rfl
  have w1:IntKind.i64.wrap ((N.length:Int)+0)=(N.length:Int):=by rw[wrap_eq (by omega) (by omega)];omega
  have w2:IntKind.i64.wrap ((N.length:Int)+1)=((N.length+1:Nat):Int):=by rw[wrap_eq (by omega) (by omega)];omega
  have go:(leI (0:Int) (((N.length+1:Nat):Int))&&(leI (((N.length+1:Nat):Int)) (((N.length+1:Nat):Int))&&leI (((N.length+1:Nat):Int)) (2147483648:Int)))=true:=by simp;omega
  rw[e190];simp only[dI,d0,d1,w0,w1,w2];rw[show (((N.length:Nat):Int)==0)=false by simp;omega,cond_false,go,cond_true,Int.toNat_natCast,l9];exact aqm X hX hB N r hr hN hn N.length 0 0 [] (by omega) rfl (wo _) (Nat.pow_pos (by decide)) (by simp[val]))
end
end Go.Skm.Fen
namespace Go.Skm.Fen
open Go Go.Skm Go.Skm.Dig
theorem orM {t m r:Nat} (ht:t<2 ^ (64-r)) (hr:r≤64):IntKind.u64.wrap (((BitVec.ofInt IntKind.u64.bits (t:Int)) ||| (BitVec.ofInt IntKind.u64.bits ((m*2 ^ (64-r)%aZ:Nat):Int))).toNat:Nat)=((t+m%2 ^ r*2 ^ (64-r):Nat):Int)∧t+m%2 ^ r*2 ^ (64-r)<aZ:=by
 have hB:2 ^ (64-r)*2 ^ r=aZ:=by rw[← Nat.pow_add,Nat.sub_add_cancel hr]
 have e:m*2 ^ (64-r)%aZ=m%2 ^ r*2 ^ (64-r):=by rw[← hB,Nat.mul_comm m,Nat.mul_mod_mul_left,Nat.mul_comm]
 have h:=orN (m:=m*2 ^ (64-r)%aZ) ht (by omega) (Nat.mod_lt _ (by decide)) (by rw[e,Nat.mul_mod_left]);rw[e]at h ⊢;exact h
section
variable (X:Ext) (hX:Mine X) (hB:Bits X)
include hX hB
theorem aqn (N : List Nat) (r : Nat) (h0 : 0 < r) (hr : r < 64) (hN : ok aZ N) (hn : N.length ≤ 100000) : ∀ (k i : Nat) (pre : List Nat),i + k = N.length → pre.length = i → ok aZ pre →
    val aZ pre*2 ^ r+N.getD 0 0%2 ^ r=val aZ (N.take i)+aZ ^ i*(N.getD i 0%2 ^ r) →
    L tab (run tab X) 192 [] [.lp [1,1,1,1,0,1,0,1,0]] (nR (bP .u64 N) 0 r 0 N.length N.length i (bP .u64 (pre++N.drop i)))=some ([.fresh false kU (bP .u64 (bK aZ (val aZ N / 2 ^ r)))],[]):=by
  have _:=hB;intro k;induction k with
  | zero =>
   intro i pre hi hp hok hv;have hin:i=N.length:=by omega
   subst hin;refine dW ?_;rw[FM];refine dO (by omega) ?_;rw[List.drop_length,List.append_nil];rw[rE _ _ _ (Nat.le_refl _),show N.getD N.length 0=0 by rw[qLb,List.getElem?_eq_none (by omega)];rfl,Nat.zero_mod,Nat.mul_zero,Nat.add_zero]at hv;have hq:val aZ N / 2 ^ r=val aZ pre:=by rw[← hv,Nat.mul_comm,Nat.mul_add_div (Nat.pow_pos (by decide)),Nat.div_eq_of_lt (Nat.mod_lt _ (Nat.pow_pos (by decide))),Nat.add_zero]
   rw[hq];exact wY X hX _ (by omega) hok _ hp.symm
  | succ k ih =>
   intro i pre hi hp hok hv;refine dW ?_;rw[FM];refine fF (by omega) ?_;have r1:(leI (0:Int) (i:Int)&&dG (i:Int) ((N.length:Nat):Int))=true:=by simp;omega
   have w1:IntKind.i64.wrap ((i:Int)+1)=((i+1:Nat):Int):=by rw[wrap_eq (by omega) (by omega)];omega
   have w3:IntKind.i64.wrap (0+(i:Int))=(i:Int):=by rw[wrap_eq (by omega) (by omega)];omega
   have w2:IntKind.i64.wrap (64-(r:Int))=((64-r:Nat):Int):=by rw[wrap_eq (by omega) (by omega)];omega
   have n1:(!dG (r:Int) 0)=true:=by simp
   have n2:(!dG ((64-r:Nat):Int) 0)=true:=by simp
   have m1:min r IntKind.u64.bits=r:=Nat.min_eq_left (show r≤64 by omega);have m2:min (64-r) IntKind.u64.bits=64-r:=Nat.min_eq_left (show 64-r≤64 by omega);have hx:N.getD i 0<aZ:=jL hN (by decide) i;have hB2:2 ^ (64-r)*2 ^ r=aZ:=by rw[← Nat.pow_add,Nat.sub_add_cancel (by omega)]
   have gt:(pre++N.drop i).getD i 0=N.getD i 0:=by rw[qLb,List.getElem?_append_right (by omega),hp,Nat.sub_self,rD (by omega)];rfl
   have st:∀ v,(pre++N.drop i).set i v=(pre++[v])++N.drop (i+1):=by intro v;rw[List.set_append,if_neg (by omega),hp,Nat.sub_self,rD (by omega),List.append_assoc];rfl
   have gt2:∀ v,((pre++[v])++N.drop (i+1)).getD i 0=v:=by intro v;rw[List.append_assoc,qLb,List.getElem?_append_right (by omega),hp,Nat.sub_self];rfl
   have st2:∀ v u,((pre++[v])++N.drop (i+1)).set i u=(pre++[u])++N.drop (i+1):=by intro v u;rw[List.append_assoc,List.set_append,if_neg (by omega),hp,Nat.sub_self,List.append_assoc];rfl
   have ht:N.getD i 0 / 2 ^ r<2 ^ (64-r):=by rw[Nat.div_lt_iff_lt_mul (Nat.pow_pos (by decide)),hB2];exact hx
   obtain⟨o1,o2⟩:=orM (m:=N.getD (i+1) 0) ht (by omega);have key:L tab (run tab X) 192 [] [.lp [1,1,1,1,0,1,0,1,0]] (nR (bP .u64 N) 0 r 0 N.length N.length (i+1:Nat) (bP .u64 ((pre++[N.getD i 0 / 2 ^ r+N.getD (i+1) 0%2 ^ r*2 ^ (64-r)])++N.drop (i+1))))=some ([.fresh false kU (bP .u64 (bK aZ (val aZ N / 2 ^ r)))],[]):=by refine ih (i+1) _ (by omega) (by simp[hp]) (jQ.2 ⟨hok,fun d hd=>by rw[List.mem_singleton.1 hd];exact o2⟩) ?_;rw[lT,hp,qH,Nat.pow_succ];have e1:=Nat.mod_add_div (N.getD i 0) (2 ^ r);revert e1 hB2 hv;generalize N.getD i 0 / 2 ^ r=q;generalize N.getD i 0%2 ^ r=s;generalize N.getD (i+1) 0%2 ^ r=u;generalize 2 ^ (64-r)=C;generalize 2 ^ r=D;generalize aZ ^ i=P;generalize aZ=B;intro hv hb e1;grind
   simp only[w1,w3,w2];rw[r1,n1,cond_true,cond_true,cond_true];simp only[Int.toNat_natCast,gK,Nat.zero_add,m1,m2,gt,Oq,ade,lZ,st];by_cases hl:((i+1:Nat):Int)<(N.length:Int)
   · refine fF hl ?_;have r2:(leI (0:Int) ((i+1:Nat):Int)&&dG ((i+1:Nat):Int) (((bP .u64 N).length:Nat):Int))=true:=by simp at hl ⊢;omega
     rw[r2,n2,cond_true,cond_true,cond_true,cond_true];simp only[gK,gt2,o1,lZ,st2];exact key
   · refine dO hl ?_;have hz:N.getD (i+1) 0=0:=by rw[qLb,List.getElem?_eq_none (by omega)];rfl
     rw[hz,Nat.zero_mod,Nat.zero_mul,Nat.add_zero]at key;exact key
theorem aqo (N:List Nat) (r:Nat) (hr:r<64) (hN:ok aZ N) (hn:N.length≤100000):run tab X 192 [.p (.list false kU (bP .u64 N)),.p (.int .i64 r)] []=some ([.fresh false kU (bP .u64 (bK aZ (val aZ N / 2 ^ r)))],[]) :=
 bF (hX _ rfl) (by
  have d0:((r:Int)).tdiv 64=0:=by rw[Int.tdiv_eq_ediv_of_nonneg (by omega)];omega
  have d1:((r:Int)).tmod 64=r:=by rw[Int.tmod_eq_emod_of_nonneg (by omega)];omega
  have w0:IntKind.i64.wrap 0=0:=by rfl
  rw[amM];simp only[dI,d0,d1,w0];by_cases h0:N=[]
  · subst h0;refine fF (by simp) ?_;show some ([AV.fresh false kU []],([]:List cu))=_;rw[show val aZ [] / 2 ^ r=0 from Nat.zero_div _,gq];rfl
  · have hl:0<N.length:=List.length_pos_iff.2 h0;refine dO (by omega) ?_;rw[show (leI (0:Int) 0&&(leI 0 (N.length:Int)&&(leI (N.length:Int) (N.length:Int)&&leI (N.length:Int) (N.length:Int))))=true by simp,cond_true];simp only[Int.toNat_zero,List.drop_zero,Int.sub_zero,Int.toNat_natCast];rw[wO,List.take_length,hB.clone N hn];simp only[Option.bind_some,List.headD_cons,dM,dI];by_cases hr0:(r:Int) > 0
    · refine fF hr0 ?_;have:=aqn X hX hB N r (by omega) hr hN hn N.length 0 [] (by omega) rfl (wo _) (by simp[val]);rwa[List.nil_append,List.drop_zero]at this
    · refine dO hr0 ?_;have:r=0:=by omega
      subst this;rw[Nat.pow_zero,Nat.div_one];exact wY X hX N (by omega) hN _ rfl)
end
end Go.Skm.Fen
set_option maxRecDepth 100000
namespace Go.Skm.Fen
open Go Go.Skm Go.Skm.Dig
def bl (n:Nat):Nat:=(bK 2 n).length
theorem abu:bl 0=0:=by rw[bl,gq];rfl
theorem IX (n:Nat):n<2 ^ bl n:=wZ (by decide)
theorem abr {n:Nat} (h:0<n):2 ^ (bl n-1)≤n:=JM (by decide) h
theorem WO {n:Nat} (h:0<n):0<bl n:=by
 rcases Nat.eq_zero_or_pos (bl n) with h1 | h1
 · have:=IX n;rw[h1]at this;omega
 · exact h1
theorem Kr {n k:Nat} (h:n<2 ^ k):bl n≤k:=qp (by decide) h
theorem aff {n t:Nat} (h1:n<2 ^ t) (h2:t≠0→2 ^ (t-1)≤n):bl n=t:=by
 apply Nat.le_antisymm (Kr h1);rcases Nat.eq_zero_or_pos t with h | h
 · omega
 · rcases Nat.lt_or_ge (bl n) t with h3 | h3
   · have h4:=IX n;have h5:2 ^ bl n≤2 ^ (t-1):=Nat.pow_le_pow_right (by decide) (by omega);have:=h2 (by omega);omega
   · exact h3
theorem ah2 {k n:Nat} (h:0<n / 2 ^ k):bl n=k+bl (n / 2 ^ k):=by
 have h1:=IX (n / 2 ^ k);have h2:=abr h;have h0:=WO h;refine aff ?_ fun _=>?_
 · rw[Nat.div_lt_iff_lt_mul (Nat.pow_pos (by decide)),← Nat.pow_add,Nat.add_comm]at h1;exact h1
 · rw[Nat.le_div_iff_mul_le (Nat.pow_pos (by decide)),← Nat.pow_add]at h2;rwa[show k+bl (n / 2 ^ k)-1=bl (n / 2 ^ k)-1+k by omega]
abbrev tbl:ByteArray:=⟨#[0,1,2,2,3,3,3,3,4,4,4,4,4,4,4,4,5,5,5,5,5,5,5,5,5,5,5,5,5,5,5,5,6,6,6,6,6,6,6,6,6,6,6,6,6,6,6,6,6,6,6,6,6,6,6,6,6,6,6,6,6,6,6,6,7,7,7,7,7,7,7,7,7,7,7,7,7,7,7,7,7,7,7,7,7,7,7,7,7,7,7,7,7,7,7,7,7,7,7,7,7,7,7,7,7,7,7,7,7,7,7,7,7,7,7,7,7,7,7,7,7,7,7,7,7,7,7,7,8,8,8,8,8,8,8,8,8,8,8,8,8,8,8,8,8,8,8,8,8,8,8,8,8,8,8,8,8,8,8,8,8,8,8,8,8,8,8,8,8,8,8,8,8,8,8,8,8,8,8,8,8,8,8,8,8,8,8,8,8,8,8,8,8,8,8,8,8,8,8,8,8,8,8,8,8,8,8,8,8,8,8,8,8,8,8,8,8,8,8,8,8,8,8,8,8,8,8,8,8,8,8,8,8,8,8,8,8,8,8,8,8,8,8,8,8,8,8,8,8,8,8,8,8,8,8,8]⟩
theorem afg:∀ y,y<256→y<2 ^ (tbl.data.getD y 0).toNat∧((tbl.data.getD y 0).toNat≠0→2 ^ ((tbl.data.getD y 0).toNat-1)≤y):=by decide +kernel
theorem ah4 {y:Nat} (h:y<256):(tbl.data.getD y 0).toNat=bl y:=(aff (afg y h).1 (afg y h).2).symm
theorem YR {y:Nat} (h:y<aZ):bl y≤64:=Kr h
theorem BO (k y:Nat) (hy:y<256) (hk:k≤56):(bif (leI (0:Int) (IntKind.u8.wrap (y:Int))&&dG (IntKind.u8.wrap (y:Int)) (tbl.size:Int)) then some ([AV.p (.int .i64 (IntKind.i64.wrap ((k:Int)+(IntKind.i64.wrap ((tbl.data.getD ((IntKind.u8.wrap (y:Int)).toNat) 0).toNat:Int)))))],([]:List cu)) else none)=some ([.p (.int .i64 ((k+bl y:Nat):Int))],[]):=by
 have w:IntKind.u8.wrap (y:Int)=(y:Int):=by show (y:Int)%2 ^ 8=y;omega
 have hb:bl y≤8:=Kr (by simpa using hy);have hs:(tbl.size:Int)=256:=by rfl
 rw[w,hs,show (leI (0:Int) (y:Int)&&dG (y:Int) 256)=true by simp;omega,cond_true,Int.toNat_natCast,ah4 hy,wrap_eq (x:=((bl y:Nat):Int)) (by omega) (by omega),wrap_eq (by omega) (by omega),Int.natCast_add]
section
variable (X:Ext) (hX:Mine X)
include hX
theorem aqp (x:Nat) (hx:x<aZ):run tab X 170 [.p (.int .u64 x)] []=some ([.p (.int .i64 (bl x:Nat))],[]) :=
 bF (hX _ rfl) (by
  have hx:x<18446744073709551616:=hx;have go:∀ k y:Nat,y<256→k≤56→y=x / 2 ^ k→(k≠0→0<y)→some ([AV.p (.int .i64 ((k+bl y:Nat):Int))],([]:List cu))=some ([.p (.int .i64 (bl x:Nat))],[]):=by
   intro k y _ _ h1 h2;by_cases hk:k=0
   · subst hk;rw[h1,Nat.pow_zero,Nat.div_one,Nat.zero_add]
   · have:=h2 hk;rw[h1]at this ⊢;rw[← ah2 this]
  rw[e170];simp only[Oq];by_cases h1:(x:Int) ≥ 4294967296
  · refine fF h1 ?_;by_cases h2:((x / 2 ^ 32:Nat):Int) ≥ 65536
    · refine fF h2 ?_;by_cases h3:((x / 2 ^ 32 / 2 ^ 16:Nat):Int) ≥ 256
      · refine fF h3 ?_;exact(BO 56 (x / 2 ^ 32 / 2 ^ 16 / 2 ^ 8) (by omega) (by omega)).trans (go 56 _ (by omega) (by omega) (by omega) (by omega))
      · refine dO h3 ?_;exact(BO 48 (x / 2 ^ 32 / 2 ^ 16) (by omega) (by omega)).trans (go 48 _ (by omega) (by omega) (by omega) (by omega))
    · refine dO h2 ?_;by_cases h3:((x / 2 ^ 32:Nat):Int) ≥ 256
      · refine fF h3 ?_;exact(BO 40 (x / 2 ^ 32 / 2 ^ 8) (by omega) (by omega)).trans (go 40 _ (by omega) (by omega) (by omega) (by omega))
      · refine dO h3 ?_;exact(BO 32 (x / 2 ^ 32) (by omega) (by omega)).trans (go 32 _ (by omega) (by omega) (by omega) (by omega))
  · refine dO h1 ?_;by_cases h2:(x:Int) ≥ 65536
    · refine fF h2 ?_;by_cases h3:((x / 2 ^ 16:Nat):Int) ≥ 256
      · refine fF h3 ?_;exact(BO 24 (x / 2 ^ 16 / 2 ^ 8) (by omega) (by omega)).trans (go 24 _ (by omega) (by omega) (by omega) (by omega))
      · refine dO h3 ?_;exact(BO 16 (x / 2 ^ 16) (by omega) (by omega)).trans (go 16 _ (by omega) (by omega) (by omega) (by omega))
    · refine dO h2 ?_;by_cases h3:(x:Int) ≥ 256
      · refine fF h3 ?_;exact(BO 8 (x / 2 ^ 8) (by omega) (by omega)).trans (go 8 _ (by omega) (by omega) (by omega) (by omega))
      · refine dO h3 ?_;exact(BO 0 x (by omega) (by omega)).trans (go 0 _ (by omega) (by omega) (by omega) (by omega)))
theorem ahU (x:Nat) (hx:x<aZ):run tab X 153 [.p (.int .u64 x)] []=some ([.p (.int .i64 (64-bl x:Nat))],[]) :=
 bF (hX _ rfl) (by have:=YR hx;rw[e153,aqp X hX x hx];simp only[Option.bind_some,List.headD_cons,dA,toInt_int];rw[wrap_eq (by omega) (by omega),show (64:Int)-((bl x:Nat):Int)=((64-bl x:Nat):Int) by omega])
variable (hB:Bits X)
include hB
theorem ahW (N:List Nat) (hN:ok aZ N) (ht:Dig.tight N) (hn:N.length≤100000000):run tab X 112 [.p (.list false kU (bP .u64 N))] []=some ([.p (.int .i64 (bl (val aZ N):Nat))],[]) :=
 bF (hX _ rfl) (by
  have _:=hB;rw[aml];simp only[dI];by_cases h0:N=[]
  · subst h0;rw[show val aZ []=0 from rfl,abu];rfl
  · have hl:0<N.length:=List.length_pos_iff.2 h0;rw[show (((N.length:Nat):Int)==0)=false by simp;omega,cond_false,wrap_eq (x:=(N.length:Int)-1) (by omega) (by omega),show (N.length:Int)-1=((N.length-1:Nat):Int) by omega];have r1:(leI (0:Int) ((N.length-1:Nat):Int)&&dG ((N.length-1:Nat):Int) ((N.length:Nat):Int))=true:=by simp;omega
    have hx:N.getD (N.length-1) 0<aZ:=jL hN (by decide) _;rw[r1,cond_true,Int.toNat_natCast,gK,ahU X hX _ hx];simp only[Option.bind_some,List.headD_cons,dA,toInt_int];have h64:=YR hx;have hpos:0<N.getD (N.length-1) 0:=by
     have h1:N.getLast?=some (N.getD (N.length-1) 0):=by rw[List.getLast?_eq_getElem?,qLb,qLd (by omega)];rfl
     exact Nat.pos_of_ne_zero (ht _ h1)
    have hbp:=WO hpos;have e:bl (val aZ N)=64*(N.length-1)+bl (N.getD (N.length-1) 0):=by
     have hv:=IG aZ N (N.length-1) (by omega);rw[List.drop_eq_nil_of_le (show N.length≤N.length-1+1 by omega),show val aZ []=0 from rfl,Nat.mul_zero,Nat.add_zero]at hv;have hlow:=rW (LD hN (N.length-1));rw[List.length_take,Nat.min_eq_left (by omega)]at hlow;have hP:aZ ^ (N.length-1)=2 ^ (64*(N.length-1)):=by rw[Nat.pow_mul]
     rw[hP]at hv hlow;have a1:=IX (N.getD (N.length-1) 0);have a2:=abr hpos;refine aff ?_ fun _=>?_
     · rw[Nat.pow_add];have:=Nat.mul_le_mul_left (2 ^ (64*(N.length-1))) a1;rw[Nat.mul_succ]at this;omega
     · rw[show 64*(N.length-1)+bl (N.getD (N.length-1) 0)-1=64*(N.length-1)+(bl (N.getD (N.length-1) 0)-1) by omega,Nat.pow_add];have:=Nat.mul_le_mul_left (2 ^ (64*(N.length-1))) a2;omega
    rw[e,wrap_eq (x:=(N.length:Int)*64) (by omega) (by omega),wrap_eq (by omega) (by omega),show (N.length:Int)*64-((64-bl (N.getD (N.length-1) 0):Nat):Int)=((64*(N.length-1)+bl (N.getD (N.length-1) 0):Nat):Int) by omega])
end
end Go.Skm.Fen
namespace Go.Skm.Dig
theorem zU {l:List Nat} {k:Nat} (h:k<l.length):l.drop k=l.getD k 0::l.drop (k+1):=by rw[List.drop_eq_getElem_cons h,List.getD_eq_getElem?_getD,List.getElem?_eq_getElem h];rfl
theorem JO (b:Nat) (l:List Nat) (k:Nat) (h:k≤l.length):val b l=val b (l.take k)+b ^ k*val b (l.drop k):=by
 conv=>lhs;rw[← List.take_append_drop k l]
 rw[val_append,List.length_take,Nat.min_eq_left h]
theorem adn {b:Nat} {l:List Nat} (h:ok b l) (i:Nat):ok b (l.take i):=fun d hd=>h d (List.mem_of_mem_take hd)
theorem ait {b:Nat} {l:List Nat} (h:ok b l) (i:Nat):ok b (l.drop i):=fun d hd=>h d (List.mem_of_mem_drop hd)
theorem aay {B n j k D : Nat} {R : List Nat} (hB : 0 < B) (hlen : R.length = n + 1) (hjk : j + k ≤ n) (hlt : val B R < B ^ (j + 1) * D) (hD : D ≤ B ^ k) :
    val B R=val B (R.take j)+B ^ j*val B ((R.drop j).take (k+1))∧val B ((R.drop j).take (k+1))<B*D:=by
  have h1:=JO B R j (by omega);have h2:=JO B (R.drop j) (k+1) (by simp;omega);have hz:val B ((R.drop j).drop (k+1))=0:=by
   rcases Nat.eq_zero_or_pos (val B ((R.drop j).drop (k+1))) with h | h
   · exact h
   · exfalso;have a1:B ^ (k+1)≤val B (R.drop j):=by have:=Nat.mul_le_mul_left (B ^ (k+1)) h;omega
     have a2:B ^ j*B ^ (k+1)≤B ^ j*val B (R.drop j):=Nat.mul_le_mul_left _ a1;have a3:B ^ (j+1)*D≤B ^ j*B ^ (k+1):=by rw[Nat.pow_succ,Nat.pow_succ',Nat.mul_assoc];exact Nat.mul_le_mul_left _ (Nat.mul_le_mul_left _ hD)
     omega
  rw[hz,Nat.mul_zero,Nat.add_zero]at h2;rw[h2]at h1;refine⟨h1,?_⟩;have:B ^ j*val B ((R.drop j).take (k+1))<B ^ j*(B*D):=by rw[← Nat.mul_assoc,← Nat.pow_succ];show _<B ^ (j+1)*D;omega
  exact Nat.lt_of_mul_lt_mul_left this
theorem afk {B k:Nat} {W:List Nat} (hB:0<B) (hok:ok B W) (hlen:W.length=k+1) (hk:0<k):val B W<(W.getD k 0*B+W.getD (k-1) 0+1)*B ^ (k-1):=by have h1:=JO B W (k-1) (by omega);rw[zU (l:=W) (k:=k-1) (by omega),show k-1+1=k by omega,zU (l:=W) (k:=k) (by omega),List.drop_eq_nil_of_le (show W.length≤k+1 by omega)]at h1;have h2:=rW (adn hok (k-1));rw[List.length_take,Nat.min_eq_left (by omega)]at h2;rw[h1];show _+B ^ (k-1)*(W.getD (k-1) 0+B*(W.getD k 0+B*0))<_;rw[Nat.mul_zero,Nat.add_zero,Nat.add_mul _ 1,Nat.one_mul,Nat.mul_comm (B ^ (k-1)),Nat.add_comm (W.getD (k-1) 0),Nat.mul_comm B];omega
theorem top_le {B k:Nat} {D:List Nat} (hlen:D.length=k) (hk:0<k):D.getD (k-1) 0*B ^ (k-1)≤val B D:=by have h1:=JO B D (k-1) (by omega);rw[zU (l:=D) (k:=k-1) (by omega)]at h1;rw[h1];show _≤_+B ^ (k-1)*(D.getD (k-1) 0+B*val B (D.drop (k-1+1)));rw[Nat.mul_add,Nat.mul_comm];omega
def guess (B t s d:Nat):Nat:=if t<d then(t*B+s) / d else B-1
theorem ado {B k : Nat} {W D : List Nat} (hB : 0 < B) (hW : ok B W) (hw : W.length = k + 1) (hd : D.length = k) (hk : 0 < k) (hp : 0 < D.getD (k - 1) 0) (hlt : val B W < B * val B D) :
    val B W / val B D≤guess B (W.getD k 0) (W.getD (k-1) 0) (D.getD (k-1) 0)∧guess B (W.getD k 0) (W.getD (k-1) 0) (D.getD (k-1) 0)<B:=by
  have hD:=top_le (B:=B) hd hk;have hpos:0<val B D:=Nat.lt_of_lt_of_le (Nat.mul_pos hp (Nat.pow_pos hB)) hD;have h1:val B W / val B D<B:=by rw[Nat.div_lt_iff_lt_mul hpos];exact hlt
  rw[guess];by_cases h:W.getD k 0<D.getD (k-1) 0
  · rw[if_pos h];refine⟨afj hp hD (afk hB hW hw hk) hB,?_⟩;rw[Nat.div_lt_iff_lt_mul hp];have hs:W.getD (k-1) 0<B:=by rw[List.getD_eq_getElem?_getD,List.getElem?_eq_getElem (by omega)];exact hW _ (List.getElem_mem _)
    have:=Nat.mul_le_mul_right B h;rw[Nat.succ_mul]at this;rw[Nat.mul_comm B];omega
  · rw[if_neg h];omega
theorem UU (B:Nat) (l:List Nat) (n:Nat):val B (l++List.replicate n 0)=val B l:=by rw[val_append,Hg];simp
def Fz (R:List Nat) (j k:Nat) (L:List Nat):List Nat:=R.take j++(L++List.replicate (k+1-L.length) 0)++R.drop (j+(k+1))
theorem UW {n j k:Nat} {R L:List Nat} (hlen:R.length=n+1) (hjk:j+k≤n) (hL:L.length≤k+1):(Fz R j k L).length=n+1:=by simp[Fz];omega
theorem adp {B j k:Nat} {R L:List Nat} (hB:0<B) (hR:ok B R) (hL:ok B L):ok B (Fz R j k L) :=
 jQ.2 ⟨jQ.2 ⟨adn hR j,jQ.2 ⟨hL,fun d hd=>by rw[List.eq_of_mem_replicate hd];exact hB⟩⟩,ait hR _⟩
theorem abx {B n j k D g : Nat} {R L : List Nat} (hB : 0 < B) (hR : ok B R) (hlen : R.length = n + 1) (hjk : j + k ≤ n) (hlt : val B R < B ^ (j + 1) * D) (hD : D ≤ B ^ k) (hp : 0 < D) (hL : L.length ≤ k + 1)
    (hg:g=val B ((R.drop j).take (k+1)) / D) (hv:val B L=val B ((R.drop j).take (k+1))-D*g) :
    val B R=val B (Fz R j k L)+B ^ j*(g*D)∧val B (Fz R j k L)<B ^ j*D:=by
  obtain⟨h1,h2⟩:=aay hB hlen hjk hlt hD;have hz:val B (R.drop (j+(k+1)))=0:=by
   have a:=JO B R (j+(k+1)) (by omega);rcases Nat.eq_zero_or_pos (val B (R.drop (j+(k+1)))) with h | h
   · exact h
   · exfalso;have a1:=Nat.mul_le_mul_left (B ^ (j+(k+1))) h;have a3:B ^ (j+1)*D≤B ^ (j+(k+1)):=by rw[show j+(k+1)=j+1+k by omega,Nat.pow_add B (j+1) k];exact Nat.mul_le_mul_left _ hD
     omega
  have e:val B (Fz R j k L)=val B (R.take j)+B ^ j*val B L:=by rw[Fz,val_append,hz,Nat.mul_zero,Nat.add_zero,val_append,UU,List.length_take,Nat.min_eq_left (by omega)]
  have hmod:=Nat.div_add_mod (val B ((R.drop j).take (k+1))) D;have hml:=Nat.mod_lt (val B ((R.drop j).take (k+1))) hp;rw[← hg]at hmod;have hv2:val B L=val B ((R.drop j).take (k+1))%D:=by omega
  have hlow:=rW (adn hR j);rw[List.length_take,Nat.min_eq_left (by omega)]at hlow;constructor
  · rw[e,h1,hv2];have:B ^ j*val B ((R.drop j).take (k+1))=B ^ j*(D*g+val B ((R.drop j).take (k+1))%D):=by rw[hmod]
    rw[this,Nat.mul_add,Nat.mul_comm D g];omega
  · rw[e,hv2];have:=Nat.mul_le_mul_left (B ^ j) hml;rw[Nat.mul_succ]at this;omega
end Go.Skm.Dig
namespace Go.Skm.Fen
open Go Go.Skm Go.Skm.Dig
theorem JK (k:IntKind) (b v:List Nat) (o:Nat):patch (bP k b) o (bP k v)=bP k (b.take o++v++b.drop (o+v.length)):=by rw[patch,wO,UO,uK,uK,dI]
theorem Ot (R L : List Nat) (j k n : Nat) (hlen : R.length = n + 1) (hjk : j + k ≤ n) (hL : L.length ≤ k + 1) :
    patch (patch (bP .u64 R) j (List.replicate (k+1) (PV.int .u64 0))) j ((((bP .u64 L).drop 0).take (bP .u64 L).length).take (Nat.min (bP .u64 L).length (k+1)))=bP .u64 (Fz R j k L):=by
  rw[List.drop_zero,List.take_length,dI,List.take_of_length_le (by rw[dI];exact Nat.le_min.2 ⟨Nat.le_refl _,hL⟩),l9,JK,JK];congr 1;have h1:(R.take j).length=j:=by simp;omega
  have t1:(R.take j++List.replicate (k+1) 0++R.drop (j+(k+1))).take j=R.take j:=by rw[List.append_assoc,List.take_left' h1]
  have t2:(R.take j++List.replicate (k+1) 0++R.drop (j+(k+1))).drop (j+L.length)=List.replicate (k+1-L.length) 0++R.drop (j+(k+1)):=by rw[List.append_assoc,List.drop_append,h1,List.drop_of_length_le (show (R.take j).length≤j+L.length by omega),List.nil_append,show j+L.length-j=L.length by omega,List.drop_append,List.length_replicate,show L.length-(k+1)=0 by omega,List.drop_zero,List.drop_replicate]
  rw[Fz,List.length_replicate,t1,t2,List.append_assoc,List.append_assoc,List.append_assoc]
theorem aaw (x:List Nat) (l:Nat):x.take (trim (x.take l)).length=trim (x.take l):=by have h1:=wL (x.take l);have h2:=Ky (x.take l);rw[List.take_take,Nat.min_eq_left (Nat.le_trans h2 (List.length_take_le _ _))]at h1;exact h1
theorem trimmed (b:List Nat) (hok:ok aZ b) (o l:Nat):((bP .u64 b).drop o).take (trim ((b.drop o).take l)).length=bP .u64 (bK aZ (val aZ ((b.drop o).take l))):=by rw[UO,wO,aaw,← zG b64 (LD (abv hok o) l) rfl]
theorem whole (x:List Nat):((bP .u64 x).drop 0).take x.length=bP .u64 x:=by rw[List.drop_zero,← dI .u64 x,List.take_length]
theorem jP {n k:Nat} (h:n<aZ ^ k):(bK aZ n).length≤k:=qp b64 h
theorem D8 (n:Nat):ok aZ (bK aZ n):=yZ b64 n
theorem dval (n:Nat):val aZ (bK aZ n)=n:=qo b64 n
theorem G8 (n:Nat):Dig.tight (bK aZ n):=wu b64 n
theorem AU (a b:Nat):cmpL aZ (bK aZ a) (bK aZ b)<0↔a<b:=by rw[agx b64 (D8 a) (D8 b) (G8 a) (G8 b),dval,dval]
section
variable (X:Ext) (hX:Mine X) (hB:Bits X)
include hX hB
theorem alF (Ea : Nat) (D R Q : List Nat) (n j k ql : Nat) (hn : n ≤ 10000000) (hD : ok aZ D) (hDt : Dig.tight D) (hDl : D.length = k) (hDp : 0 < val aZ D) (hR : ok aZ R) (hlen : R.length = n + 1) (hjk : j + k ≤ n) (hq : j < ql) (hQ : Q.length = ql)
    (hw:val aZ ((R.drop j).take (k+1))<aZ*val aZ D) (r:List AV × List cu)
    (K:L tab (run tab X) 186 [] [.lp [1,1,1,1,1,1,1,1,0,1,0]] (nP Ea 0 k 0 (n+1) k 0 ql ((j:Int)-1) (bP .u64 D) (bP .u64 (Fz R j k (bK aZ (val aZ ((R.drop j).take (k+1))-val aZ D*(val aZ ((R.drop j).take (k+1)) / val aZ D))))) (bP .u64 (Q.set j (val aZ ((R.drop j).take (k+1)) / val aZ D))))=some r) :
    ∀ g,val aZ ((R.drop j).take (k+1)) / val aZ D≤g→g<aZ →
    L tab (run tab X) 186 [] [.lp [1,1,1,1,1,1,1,1,0,1,0],.lp [1,0,0,1,1,1,1,0,0]] (iw Ea 0 k 0 (n+1) k 0 ql j g j (k+1) 0 (bK aZ (val aZ D*g)).length (bP .u64 D) (bP .u64 R) (bP .u64 Q) (bP .u64 (bK aZ (val aZ D*g))))=some r:=by
  have _:=hB;have hDlt:val aZ D<aZ ^ k:=by rw[← hDl];exact rW hD
  have hwl:val aZ ((R.drop j).take (k+1))<aZ ^ (k+1):=by rw[Nat.pow_succ'];exact Nat.lt_trans hw (Nat.mul_lt_mul_of_pos_left hDlt (by decide))
  have hpl:∀ g,g<aZ→(bK aZ (val aZ D*g)).length≤k+1:=by intro g hg;refine jP ?_;rw[Nat.pow_succ];exact Nat.mul_lt_mul'' hDlt hg
  intro g;induction g with
  | zero =>
   intro h1 h2;have hz:val aZ ((R.drop j).take (k+1)) / val aZ D=0:=Nat.eq_zero_of_le_zero h1;refine dW ?_;rw[qB,WM X hX R (by omega) j (k+1) (by omega)];simp only[Option.bind_some,List.headD_cons,yM,kJ,kK];rw[trimmed R hR,whole,c156 X hX _ _ (D8 _) (D8 _) (Nat.le_trans (jP hwl) (by omega)) (Nat.le_trans (hpl _ h2) (by omega))];simp only[Option.bind_some,List.headD_cons,dA,toInt_int];refine dO (by rw[AU,Nat.mul_zero];exact Nat.not_lt_zero _) ?_;rw[WM X hX R (by omega) j (k+1) (by omega)];simp only[Option.bind_some,List.headD_cons,yM,kJ,kK];rw[trimmed R hR,c157 X hX _ _ (D8 _) (D8 _) (Nat.le_trans (jP hwl) (by omega)) (by rw[Nat.mul_zero,gq];simp) (by rw[Nat.mul_zero,gq];exact Nat.zero_le _)];simp only[Option.bind_some,List.headD_cons,dM,dval,Int.toNat_natCast,Nat.zero_add];have hr:(leI (0:Int) (j:Int)&&dG (j:Int) (ql:Int))=true:=by simp;omega
   rw[hr,cond_true,wrap_eq (by omega) (by omega),Ot R _ j k n hlen hjk (jP (Nat.lt_of_le_of_lt (Nat.sub_le _ _) hwl))];rw[hz,← lZ]at K;exact K
  | succ g ih =>
   intro h1 h2;refine dW ?_;rw[qB,WM X hX R (by omega) j (k+1) (by omega)];simp only[Option.bind_some,List.headD_cons,yM,kJ,kK];rw[trimmed R hR,whole,c156 X hX _ _ (D8 _) (D8 _) (Nat.le_trans (jP hwl) (by omega)) (Nat.le_trans (hpl _ h2) (by omega))];simp only[Option.bind_some,List.headD_cons,dA,toInt_int];by_cases hlt:val aZ ((R.drop j).take (k+1))<val aZ D*(g+1)
   · refine fF (by rw[AU];exact hlt) ?_;obtain⟨_,q2⟩:=adl hDp hlt;have hge:val aZ D≤val aZ D*(g+1):=Nat.le_mul_of_pos_right _ (by omega);have hDw:((bP .u64 D).drop 0).take k=bP .u64 D:=by rw[← hDl];exact whole D
     have alH:D.length≤(bK aZ (val aZ D*(g+1))).length:=by
      rcases Nat.lt_or_ge (bK aZ (val aZ D*(g+1))).length D.length with h | h
      · exfalso;have:=DK b64 (D8 _) hD hDt h;rw[dval]at this;omega
      · exact h
     rw[hDw,c157 X hX _ _ (D8 _) hD (Nat.le_trans (hpl _ h2) (by omega)) alH (by rw[dval];exact hge)];simp only[Option.bind_some,List.headD_cons,dM,dval,dI];rw[show ((g+1:Nat):Int)-1=(g:Int) by omega,nJ (Nat.lt_of_succ_lt h2),show val aZ D*(g+1)-val aZ D=val aZ D*g by rw[Nat.mul_succ,Nat.add_sub_cancel]];exact ih (by omega) (Nat.lt_of_succ_lt h2)
   · refine dO (by rw[AU];exact hlt) ?_;have hg:=ag0 hDp h1 (Nat.le_of_not_lt hlt);rw[WM X hX R (by omega) j (k+1) (by omega)];simp only[Option.bind_some,List.headD_cons,yM,kJ,kK];have hlen2:(bK aZ (val aZ D*(g+1))).length≤(bK aZ (val aZ ((R.drop j).take (k+1)))).length:=by
      rcases Nat.lt_or_ge (bK aZ (val aZ ((R.drop j).take (k+1)))).length (bK aZ (val aZ D*(g+1))).length with h | h
      · exfalso;have:=DK b64 (D8 _) (D8 _) (G8 _) h;rw[dval,dval]at this;exact hlt this
      · exact h
     rw[trimmed R hR,c157 X hX _ _ (D8 _) (D8 _) (Nat.le_trans (jP hwl) (by omega)) hlen2 (by rw[dval,dval];exact Nat.le_of_not_lt hlt)];simp only[Option.bind_some,List.headD_cons,dM,dval,Int.toNat_natCast,Nat.zero_add];have hr:(leI (0:Int) (j:Int)&&dG (j:Int) (ql:Int))=true:=by simp;omega
     rw[hr,cond_true,wrap_eq (by omega) (by omega),Ot R _ j k n hlen hjk (jP (Nat.lt_of_le_of_lt (Nat.sub_le _ _) hwl))];rw[← hg,← lZ]at K;exact K
end
end Go.Skm.Fen
