import Derived.Test.YtoheflpoanjihaaGreatW8
namespace Go.Skm.Fen
open Go Go.Skm Go.Skm.Dig
theorem YV (R:List Nat) (j m i:Nat) (h:i<m):((R.drop j).take m).getD i 0=R.getD (j+i) 0:=by rw[qLb,List.getElem?_take_of_lt h,List.getElem?_drop,← qLb]
theorem afh {R:List Nat} (hR:ok aZ R) (j m:Nat):ok aZ ((R.drop j).take m):=LD (abv hR j) m
theorem last_pos {N:List Nat} (ht:Dig.tight N) (h:N≠[]):0<N.getD (N.length-1) 0:=by
 have hl:0<N.length:=List.length_pos_iff.2 h;have h1:N.getLast?=some (N.getD (N.length-1) 0):=by rw[List.getLast?_eq_getElem?,qLb,qLd (by omega)];rfl
 exact Nat.pos_of_ne_zero (ht _ h1)
section
variable (X:Ext) (hX:Mine X) (hB:Bits X)
include hX hB
theorem Sv (g:Nat) (hg:g<aZ):(run tab X) 113 [.slice 100000 1 0 1] [.arr false kU [.int .u64 (g:Int)]]=some ([.slice 100000 1 0 (trim (([g].drop 0).take 1)).length],[.arr false kU (bP .u64 [g])]):=by have _:=hB;have _:=hg;exact WM X hX [g] (by simp) 0 1 (by simp)
theorem abw (D:List Nat) (hD:ok aZ D) (hDl:D.length≤10000000) (g:Nat) (hg:g<aZ):((run tab X) 113 [.slice 100000 1 0 1] [.arr false kU [.int .u64 (g:Int)]]).bind (fun r2=>(run tab X) 173 [.p (.list false kU (bP .u64 D)),.p (.list false kU ((((r2.2.headD (.box [])).xs).drop ((r2.1.headD .undef).qV)).take ((r2.1.headD .undef).sLen)))] [])=some ([.fresh false kU (bP .u64 (bK aZ (val aZ D*g)))],[]):=by
 rw[Sv X hX hB g hg];simp only[Option.bind_some,List.headD_cons,yM,kJ,kK];have hok:ok aZ [g]:=fun d hd=>by rw[List.mem_singleton.1 hd];exact hg
 rw[trimmed [g] hok,show ([g].drop 0).take 1=[g] from rfl,val_one,c173 X hX hB _ _ hD (D8 _) ?_,dval];have:(bK aZ g).length≤1:=jP (by simpa using hg);omega
theorem ap6 (s : Nat) (hs : s < 64) (D : List Nat) (n k V : Nat) (hn : n ≤ 90000) (hD : ok aZ D) (hDt : Dig.tight D) (hDl : D.length = k) (hk : 0 < k) (hkn : k ≤ n) : ∀ (c : Nat) (R Qs : List Nat),c + Qs.length = n + 1 - k → R.length = n + 1 → ok aZ R → ok aZ Qs →
    V=val aZ R+aZ ^ c*(val aZ Qs*val aZ D)→val aZ R<aZ ^ c*val aZ D →
    L tab (run tab X) 186 [] [.lp [1,1,1,1,1,1,1,1,0,1,0]] (nP s 0 k 0 (n+1) k 0 (n+1-k) ((c:Int)-1) (bP .u64 D) (bP .u64 R) (bP .u64 (List.replicate c 0++Qs)))=some ([.fresh false kU (bP .u64 (bK aZ (V / val aZ D))),.p (.list false kU (bP .u64 (bK aZ (V%val aZ D / 2 ^ s))))],[]):=by
  have alI:D≠[]:=by intro h;rw[h]at hDl;simp at hDl;omega
  have hdt:0<D.getD (k-1) 0:=by rw[← hDl];exact last_pos hDt alI
  have hDp:0<val aZ D:=OL b64 hDt alI;have hDlt:val aZ D≤aZ ^ k:=by rw[← hDl];exact Nat.le_of_lt (rW hD)
  have hdB:D.getD (k-1) 0<aZ:=jL hD (by decide) _;intro c;induction c with
  | zero =>
   intro R Qs hq hlen hR hQ hV hlt;refine dW ?_;rw[Dq];refine dO (by simp) ?_;rw[Nat.pow_zero,Nat.one_mul]at hlt hV;have e1:V / val aZ D=val aZ Qs:=by rw[hV,Nat.add_comm,Nat.mul_comm,Nat.mul_add_div hDp,Nat.div_eq_of_lt hlt,Nat.add_zero]
   have e2:V%val aZ D=val aZ R:=by rw[hV,Nat.add_comm,Nat.mul_comm,Nat.mul_add_mod,Nat.mod_eq_of_lt hlt]
   rw[e1,e2,List.replicate_zero,List.nil_append,WM X hX Qs (by omega) 0 _ (by omega)];simp only[Option.bind_some,List.headD_cons,yM,kJ,kK];rw[WM X hX R (by omega) 0 _ (by omega)];simp only[Option.bind_some,List.headD_cons,yM,kJ,kK];have hRl:(bK aZ (val aZ R)).length≤n+1:=jP (by rw[← hlen];exact rW hR);rw[trimmed Qs hQ,trimmed R hR,List.drop_zero,List.drop_zero,← hlen,List.take_length,show R.length-k=Qs.length by omega,List.take_length,aqo X hX hB _ s hs (D8 _) (by omega),dval];simp only[Option.bind_some,List.headD_cons,dM];rw[List.drop_zero,List.take_length]
  | succ j ih =>
   intro R Qs hq hlen hR hQ hV hlt;have hjk:j+k≤n:=by omega
   obtain⟨w1,w2⟩:=aay (show 0<aZ by decide) hlen hjk hlt hDlt;have hWl:((R.drop j).take (k+1)).length=k+1:=by simp;omega
   obtain⟨g1,g2⟩:=ado (show 0<aZ by decide) (afh hR j (k+1)) hWl hDl hk hdt w2;rw[YV R j (k+1) k (by omega),YV R j (k+1) (k-1) (by omega)]at g1 g2;have hwl:val aZ ((R.drop j).take (k+1))<aZ ^ (k+1):=by have:=rW (afh hR j (k+1));rwa[hWl]at this
   have hmod:val aZ ((R.drop j).take (k+1))-val aZ D*(val aZ ((R.drop j).take (k+1)) / val aZ D)<aZ ^ (k+1):=Nat.lt_of_le_of_lt (Nat.sub_le _ _) hwl;obtain⟨v1,v2⟩:=abx (L:=bK aZ (val aZ ((R.drop j).take (k+1))-val aZ D*(val aZ ((R.drop j).take (k+1)) / val aZ D))) (show 0<aZ by decide) hR hlen hjk hlt hDlt hDp (jP hmod) rfl (dval _)
   have K:=ih (Fz R j k (bK aZ (val aZ ((R.drop j).take (k+1))-val aZ D*(val aZ ((R.drop j).take (k+1)) / val aZ D)))) ((val aZ ((R.drop j).take (k+1)) / val aZ D)::Qs) (by simp;omega) (UW hlen hjk (jP hmod)) (adp (by decide) hR (D8 _))
    (Bg.2 ⟨by rw[Nat.div_lt_iff_lt_mul hDp];exact w2,hQ⟩) (by rw[hV,v1];show _=_+aZ ^ j*((_+aZ*val aZ Qs)*val aZ D);rw[Nat.add_mul,Nat.mul_add,Nat.pow_succ,Nat.mul_assoc,Nat.mul_assoc,Nat.add_assoc]) v2
   have inner:=alF X hX hB s D R (List.replicate (j+1) 0++Qs) n j k (n+1-k) (by omega) hD hDt hDl hDp hR hlen hjk (by omega) (by simp;omega) w2 _ (by rw[YU];exact K) _ g1 g2;refine dW ?_;rw[show ((j+1:Nat):Int)-1=(j:Int) by omega,Dq];refine fF (by omega) ?_;have a1:IntKind.i64.wrap ((j:Int)+(k:Int))=((j+k:Nat):Int):=by rw[wrap_eq (by omega) (by omega)];omega
   have a2:IntKind.i64.wrap ((k:Int)-1)=((k-1:Nat):Int):=by rw[wrap_eq (by omega) (by omega)];omega
   have a3:IntKind.i64.wrap (((j+k:Nat):Int)-1)=((j+(k-1):Nat):Int):=by rw[wrap_eq (by omega) (by omega)];omega
   have a4:IntKind.i64.wrap (((j+k:Nat):Int)+1)=((j+k+1:Nat):Int):=by rw[wrap_eq (by omega) (by omega)];omega
   have r1:(leI (0:Int) ((j+k:Nat):Int)&&dG ((j+k:Nat):Int) ((n+1:Nat):Int))=true:=by simp;omega
   have r2:(leI (0:Int) ((k-1:Nat):Int)&&dG ((k-1:Nat):Int) (k:Int))=true:=by simp;omega
   have r3:(leI (0:Int) ((j+(k-1):Nat):Int)&&dG ((j+(k-1):Nat):Int) ((n+1:Nat):Int))=true:=by simp;omega
   have r4:(leI (0:Int) (j:Int)&&(leI (j:Int) ((j+k+1:Nat):Int)&&(leI ((j+k+1:Nat):Int) ((n+1:Nat):Int)&&leI ((n+1:Nat):Int) ((n+1:Nat):Int))))=true:=by simp;omega
   have r5:((j+k+1:Nat):Int)-(j:Int)=((k+1:Nat):Int):=by omega
   have hDw:((bP .u64 D).drop 0).take k=bP .u64 D:=by rw[← hDl];exact whole D
   simp only[a1,a2,a3,a4];rw[r1,r2,cond_true,cond_true];simp only[Int.toNat_natCast,gK,Nat.zero_add];have hsB:R.getD (j+(k-1)) 0<aZ:=jL hR (by decide) _;have htB:R.getD (j+k) 0<aZ:=jL hR (by decide) _;by_cases hc:((R.getD (j+k) 0:Nat):Int)<((D.getD (k-1) 0:Nat):Int)
   · refine fF hc ?_;have hc2:R.getD (j+k) 0<D.getD (k-1) 0:=by omega
     have hgg:(R.getD (j+k) 0*aZ+R.getD (j+(k-1)) 0) / D.getD (k-1) 0=guess aZ (R.getD (j+k) 0) (R.getD (j+(k-1)) 0) (D.getD (k-1) 0):=by rw[guess,if_pos hc2]
     rw[cond_true,r3,cond_true,cond_true,hB.w.div _ _ _ hc2 hsB hdB,hgg];revert inner g2;generalize guess aZ (R.getD (j+k) 0) (R.getD (j+(k-1)) 0) (D.getD (k-1) 0)=gg;intro g2 inner;simp only[Option.bind_some,List.headD_cons,dA,toInt_int,r4,cond_true,hDw,r5,Int.toNat_natCast];have hp:=abw X hX hB D hD (by omega) _ g2;rw[Sv X hX hB _ g2]at hp ⊢;simp only[Option.bind_some,List.headD_cons,yM,kJ,kK]at hp ⊢;rw[hp];simp only[Option.bind_some,List.headD_cons,dM,dI];exact inner
   · refine dO hc ?_;have hc2:¬ R.getD (j+k) 0<D.getD (k-1) 0:=by omega
     have hgg:(18446744073709551615:Int)=((guess aZ (R.getD (j+k) 0) (R.getD (j+(k-1)) 0) (D.getD (k-1) 0):Nat):Int):=by rw[guess,if_neg hc2,show aZ-1=18446744073709551615 from rfl];rfl
     rw[hgg];revert inner g2;generalize guess aZ (R.getD (j+k) 0) (R.getD (j+(k-1)) 0) (D.getD (k-1) 0)=gg;intro g2 inner;simp only[r4,cond_true,hDw,r5,Int.toNat_natCast];have hp:=abw X hX hB D hD (by omega) _ g2;rw[Sv X hX hB _ g2]at hp ⊢;simp only[Option.bind_some,List.headD_cons,yM,kJ,kK]at hp ⊢;rw[hp];simp only[Option.bind_some,List.headD_cons,dM,dI];exact inner
end
end Go.Skm.Fen
namespace Go.Skm.Fen
open Go Go.Skm Go.Skm.Dig
abbrev nU (n:Nat):List PV:=bP .u64 (bK aZ n)
theorem EU {n k:Nat} (h:(bK aZ n).length≤k):n<aZ ^ k:=Nat.lt_of_lt_of_le (wZ b64) (Nat.pow_le_pow_right (by decide) h)
theorem wX {a b:Nat} (h:a≤b):(bK aZ a).length≤(bK aZ b).length:=jP (Nat.lt_of_le_of_lt h (wZ b64))
theorem G7 {n:Nat} (h:0<n):0<(bK aZ n).length:=by
 rcases Nat.eq_zero_or_pos (bK aZ n).length with h1 | h1
 · have:=(sD b64).1 (List.length_eq_zero_iff.1 h1);omega
 · exact h1
theorem YQ {y:Nat} (h:(bK aZ y).length=1):(bK aZ y).getD 0 0=y:=by have h1:=dval y;revert h h1;generalize bK aZ y=l;intro h h1;obtain⟨a,rfl⟩:=List.length_eq_one_iff.1 h;rw[val_one]at h1;exact h1
theorem ae7 {y k s : Nat} (hy : 0 < y) (hk : (bK aZ y).length = k) (hs : s = 64 - bl ((bK aZ y).getD (k - 1) 0)) :
    s<64∧(bK aZ (y*2 ^ s)).length=k∧aZ ^ (k-1)*2 ^ 63≤y*2 ^ s∧y*2 ^ s<aZ ^ k:=by
  have hkp:0<k:=by rw[← hk];exact G7 hy
  have hne:bK aZ y≠[]:=by intro h;rw[h]at hk;simp at hk;omega
  have htp:0<(bK aZ y).getD (k-1) 0:=by rw[← hk];exact last_pos (G8 y) hne
  have htB:(bK aZ y).getD (k-1) 0<aZ:=jL (D8 y) (by decide) _;have hv:=IG aZ (bK aZ y) (k-1) (by omega);rw[List.drop_eq_nil_of_le (show (bK aZ y).length≤k-1+1 by omega),show val aZ []=0 from rfl,Nat.mul_zero,Nat.add_zero,dval]at hv;have hlow:=rW (LD (D8 y) (k-1));rw[List.length_take,Nat.min_eq_left (by omega)]at hlow;have b1:=IX ((bK aZ y).getD (k-1) 0);have b2:=abr htp;have b3:=WO htp;have b4:=YR htB;revert hs hv b1 b2 b3 b4;generalize (bK aZ y).getD (k-1) 0=t;generalize bl t=b;intro hs hv b1 b2 b3 b4;have hs2:s<64:=by omega
  have h63:2 ^ (b-1)*2 ^ s=2 ^ 63:=by rw[← Nat.pow_add,hs,show b-1+(64-b)=63 by omega]
  have h64:2 ^ b*2 ^ s=aZ:=by rw[← Nat.pow_add,hs,show b+(64-b)=64 by omega]
  have hlo:aZ ^ (k-1)*2 ^ 63≤y*2 ^ s:=by rw[← h63,← Nat.mul_assoc];refine Nat.mul_le_mul_right _ ?_;rw[hv];exact Nat.le_trans (Nat.mul_le_mul_left _ b2) (Nat.le_add_left _ _)
  have hhi:y*2 ^ s<aZ ^ k:=by
   have e:aZ ^ k=aZ ^ (k-1)*2 ^ b*2 ^ s:=by rw[Nat.mul_assoc,h64,← Nat.pow_succ,Nat.succ_eq_add_one,Nat.sub_add_cancel hkp]
   rw[e];refine Nat.mul_lt_mul_of_pos_right ?_ (Nat.pow_pos (by decide));have:=Nat.mul_le_mul_left (aZ ^ (k-1)) b1;rw[Nat.mul_succ]at this;omega
  refine⟨hs2,Nat.le_antisymm (jP hhi) ?_,hlo,hhi⟩;rcases Nat.lt_or_ge (bK aZ (y*2 ^ s)).length k with h | h
  · exfalso;have h1:y*2 ^ s<aZ ^ (k-1):=EU (by omega);have h2:aZ ^ (k-1)*1≤aZ ^ (k-1)*2 ^ 63:=Nat.mul_le_mul_left _ (by decide);rw[Nat.mul_one]at h2;exact absurd (Nat.lt_of_lt_of_le h1 (Nat.le_trans h2 hlo)) (Nat.lt_irrefl _)
  · exact h
theorem aas (L:List Nat) (n:Nat) (h:L.length≤n):patch (bP .u64 (List.replicate n 0)) 0 ((((bP .u64 L).drop 0).take (bP .u64 L).length).take (Nat.min (bP .u64 L).length n))=bP .u64 (L++List.replicate (n-L.length) 0):=by rw[List.drop_zero,List.take_length,dI,List.take_of_length_le (by rw[dI];exact Nat.le_min.2 ⟨Nat.le_refl _,h⟩),JK,List.take_zero,List.nil_append,Nat.zero_add,List.drop_replicate]
section
variable (X:Ext) (hX:Mine X) (hB:Bits X)
include hX hB
theorem alp (x y:Nat) (hy:0<y) (hx:(bK aZ x).length≤90000) (hyl:(bK aZ y).length≤90000):run tab X 186 [.p (.list false kU (nU x)),.p (.list false kU (nU y))] []=some ([.fresh false kU (nU (x / y)),.p (.list false kU (nU (x%y)))],[]) :=
 bF (hX _ rfl) (by
  have hye:0<(bK aZ y).length:=G7 hy;have htB:(bK aZ y).getD ((bK aZ y).length-1) 0<aZ:=jL (D8 y) (by decide) _;rw[amL,c156 X hX _ _ (D8 x) (D8 y) (by omega) (by omega)];simp only[Option.bind_some,List.headD_cons,dA,toInt_int,dI];by_cases hlt:x<y
  · refine fF (by rw[AU];exact hlt) ?_;rw[Nat.div_eq_of_lt hlt,Nat.mod_eq_of_lt hlt,show nU 0=[] by rw[nU,gq];rfl]
  · refine dO (by rw[AU];exact hlt) ?_;by_cases h1:(bK aZ y).length=1
    · rw[h1];refine fF (by omega) ?_;have hs:=YQ h1;have hyB:y<aZ:=by rw[← hs];exact jL (D8 y) (by decide) 0
      rw[show dG 0 ((1:Nat):Int)=true from rfl,cond_true,gK,hs,ap5 X hX hB _ y (D8 x) hy hyB (by omega),dval];simp only[Option.bind_some,List.headD_cons,List.tail_cons,dA,toInt_int,dM];have hr:x%y<aZ:=Nat.lt_trans (Nat.mod_lt _ hy) hyB;rw[Sv X hX hB _ hr];simp only[Option.bind_some,List.headD_cons,yM,kJ,kK];rw[trimmed [x%y] (fun d hd=>by rw[List.mem_singleton.1 hd];exact hr),List.drop_zero,List.take_length,show ([x%y].drop 0).take 1=[x%y] from rfl,val_one]
    · refine dO (by omega) ?_;obtain⟨s1,s2,s3,s4⟩:=ae7 hy rfl rfl;have hkn:(bK aZ y).length≤(bK aZ x).length:=wX (Nat.le_of_not_lt hlt);have hxn:bK aZ x≠[]:=by intro h;rw[h]at hkn;exact absurd (Nat.lt_of_lt_of_le hye hkn) (Nat.lt_irrefl _)
      have hyn:bK aZ y≠[]:=by intro h;rw[h]at hye;simp at hye
      have a1:IntKind.i64.wrap (((bK aZ y).length:Int)-1)=(((bK aZ y).length-1:Nat):Int):=by rw[wrap_eq (by omega) (by omega)];omega
      have a2:IntKind.i64.wrap (((bK aZ x).length:Int)+1)=(((bK aZ x).length+1:Nat):Int):=by rw[wrap_eq (by omega) (by omega)];omega
      have a3:IntKind.i64.wrap ((((bK aZ x).length+1:Nat):Int)-((bK aZ y).length:Int))=(((bK aZ x).length+1-(bK aZ y).length:Nat):Int):=by rw[wrap_eq (by omega) (by omega)];omega
      have a4:IntKind.i64.wrap ((((bK aZ x).length+1-(bK aZ y).length:Nat):Int)-1)=(((bK aZ x).length+1-(bK aZ y).length:Nat):Int)-1:=wrap_eq (by omega) (by omega);have r1:(leI (0:Int) (((bK aZ y).length-1:Nat):Int)&&dG (((bK aZ y).length-1:Nat):Int) (((bK aZ y).length:Nat):Int))=true:=by simp;omega
      have r2:(leI (0:Int) (((bK aZ x).length+1:Nat):Int)&&(leI (((bK aZ x).length+1:Nat):Int) (((bK aZ x).length+1:Nat):Int)&&leI (((bK aZ x).length+1:Nat):Int) (2147483648:Int)))=true:=by simp;omega
      have r3:(leI (0:Int) (((bK aZ x).length+1-(bK aZ y).length:Nat):Int)&&(leI (((bK aZ x).length+1-(bK aZ y).length:Nat):Int) (((bK aZ x).length+1-(bK aZ y).length:Nat):Int)&&leI (((bK aZ x).length+1-(bK aZ y).length:Nat):Int) (2147483648:Int)))=true:=by simp;omega
      rw[a1,a2,r1,cond_true];simp only[Int.toNat_natCast,gK];rw[ahU X hX _ htB];simp only[Option.bind_some,List.headD_cons,dA,toInt_int];revert s1 s2 s3 s4;generalize 64-bl ((bK aZ y).getD ((bK aZ y).length-1) 0)=s;intro s1 s2 s3 s4;rw[alq X hX hB _ s s1 (D8 y) hyn (by omega),dval];simp only[Option.bind_some,List.headD_cons,dM,dI];rw[r2,cond_true,alq X hX hB _ s s1 (D8 x) hxn (by omega),dval];simp only[Option.bind_some,List.headD_cons,dM];have hVl:(bK aZ (x*2 ^ s)).length≤(bK aZ x).length+1:=by refine jP ?_;rw[Nat.pow_succ];exact Nat.mul_lt_mul'' (wZ b64) (Nat.pow_lt_pow_right (a:=2) (by decide) s1)
      rw[s2,a3,r3,cond_true,Int.toNat_natCast,a4,l9,l9,aas _ _ hVl];have hs63:x*2 ^ s<aZ ^ ((bK aZ x).length+1-(bK aZ y).length)*(y*2 ^ s):=by
       have e1:x*2 ^ s<aZ ^ (bK aZ x).length*2 ^ 63:=by refine Nat.lt_of_lt_of_le (Nat.mul_lt_mul_of_pos_right (wZ b64 (n:=x)) (Nat.pow_pos (by decide))) (Nat.mul_le_mul_left _ (Nat.pow_le_pow_right (by decide) (by omega)))
       refine Nat.lt_of_lt_of_le e1 ?_;have e2:aZ ^ (bK aZ x).length=aZ ^ ((bK aZ x).length+1-(bK aZ y).length)*aZ ^ ((bK aZ y).length-1):=by rw[← Nat.pow_add,show (bK aZ x).length+1-(bK aZ y).length+((bK aZ y).length-1)=(bK aZ x).length by omega]
       rw[e2,Nat.mul_assoc];exact Nat.mul_le_mul_left _ s3
      have:=ap6 X hX hB s s1 (bK aZ (y*2 ^ s)) (bK aZ x).length (bK aZ y).length (x*2 ^ s) (by omega) (D8 _) (G8 _) s2 hye hkn
       ((bK aZ x).length+1-(bK aZ y).length) (bK aZ (x*2 ^ s)++List.replicate ((bK aZ x).length+1-(bK aZ (x*2 ^ s)).length) 0) [] (by simp) (by simp;omega)
       (jQ.2 ⟨D8 _,Sz (by decide) _⟩) (wo _) (by rw[UU,dval];simp[val]) (by rw[UU,dval,dval];exact hs63)
      rw[List.append_nil,dval,Nat.mul_div_mul_right _ _ (Nat.pow_pos (by decide)),Nat.mul_mod_mul_right,Nat.mul_div_cancel _ (Nat.pow_pos (by decide))]at this;exact this)
end
end Go.Skm.Fen
namespace Go.Skm.Fen
open Go Go.Skm Go.Skm.Dig
abbrev Nb:=Bool × Nat
def eN (x:Nb):PV:=.agg [.bool x.1,.list false kU (nU x.2)]
def Nb.z (x:Nb):Int:=if x.1 then -(x.2:Int) else x.2
def adb (x y:Nb):Nb:=if x.1=y.1 then(x.1,x.2+y.2) else if y.2≤x.2 then(x.1,x.2-y.2) else(y.1,y.2-x.2)
def G9 (x y:Nb):Nb:=(!(x.1==y.1),x.2*y.2)
def aat (x:Nb):Nb:=(!x.1,x.2)
def sgP (x:Nb):Int:=if x.2=0 then 0 else if x.1 then -1 else 1
def Nb.le (x:Nb) (k:Nat):Prop:=(bK aZ x.2).length≤k
theorem SA (x y:Nb):(adb x y).z=x.z+y.z:=by obtain⟨a,m⟩:=x;obtain⟨b,n⟩:=y;unfold adb Nb.z;cases a<;>cases b<;>simp<;>first | omega | (split<;>simp<;>omega)
theorem He (x y:Nb):(G9 x y).z=x.z*y.z:=by obtain⟨a,m⟩:=x;obtain⟨b,n⟩:=y;unfold G9 Nb.z;cases a<;>cases b<;>simp[Int.neg_mul,Int.mul_neg]
theorem aau (x:Nb):(aat x).z=-x.z:=by obtain⟨a,m⟩:=x;unfold aat Nb.z;cases a<;>simp
theorem ae8 (x:Nb):sgP x=x.z.sign:=by
 obtain⟨a,m⟩:=x;unfold sgP Nb.z;rcases Nat.eq_zero_or_pos m with h | h
 · subst h;cases a<;>rfl
 · simp only[show m≠0 by omega,if_false];cases a
   · simp;exact(Int.sign_eq_one_of_pos (by omega)).symm
   · simp;exact(Int.sign_eq_one_of_pos (show 0<(m:Int) by omega)).symm
theorem WQ {x y:Nb} {k:Nat} (hx:x.le k) (hy:y.le k):(adb x y).le (k+1):=by
 have h1:x.2<aZ ^ k:=EU hx;have h2:y.2<aZ ^ k:=EU hy;have h3:aZ ^ (k+1)=aZ ^ k*aZ:=Nat.pow_succ ..;have h4:aZ ^ k*2≤aZ ^ k*aZ:=Nat.mul_le_mul_left _ (by decide);refine jP ?_;unfold adb;split
 · show x.2+y.2<_;omega
 · split
   · show x.2-y.2<_;omega
   · show y.2-x.2<_;omega
theorem BN {x y:Nb} {k l:Nat} (hx:x.le k) (hy:y.le l):(G9 x y).le (k+l):=by refine jP ?_;rw[Nat.pow_add];exact Nat.mul_lt_mul'' (EU hx) (EU hy)
section
variable (X:Ext) (hX:Mine X) (hB:Bits X)
include hX
theorem ahV (x:Nb):run tab X 118 [.p (eN x)] []=some ([.p (eN (aat x))],[]):=bF (hX _ rfl) (by rw[eN,e118];rfl)
theorem c119 (x:Nb):run tab X 119 [.p (eN x)] []=some ([.p (.int .i64 (sgP x))],[]) :=
 bF (hX _ rfl) (by
  rw[eN,e119,sgP];simp only[dI];by_cases h:x.2=0
  · rw[if_pos h,h,gq];rfl
  · rw[if_neg h];have:=G7 (Nat.pos_of_ne_zero h);rw[show (((bK aZ x.2).length:Int)==0)=false by simp;intro h2;rw[h2]at this;simp at this,cond_false];cases x.1<;>rfl)
theorem c117 (x y:Nb) (hx:x.le 1000000) (hy:y.le 1000000):run tab X 117 [.p (eN x),.p (eN y)] []=some ([.p (eN (adb x y))],[]) :=
 bF (hX _ rfl) (by
  have hx':(bK aZ x.2).length≤1000000:=hx;have hy':(bK aZ y.2).length≤1000000:=hy;rw[eN,eN,e117,adb];by_cases h:x.1=y.1
  · rw[if_pos h,show (x.1==y.1)=true by simp[h],cond_true,ap7 X hX _ _ (D8 _) (D8 _) (by omega) (by omega),dval,dval];simp only[Option.bind_some,List.headD_cons,dM,List.drop_zero,List.take_length];rfl
  · rw[if_neg h,show (x.1==y.1)=false by simp[h],cond_false,c156 X hX _ _ (D8 _) (D8 _) (by omega) (by omega)];simp only[Option.bind_some,List.headD_cons,dA,toInt_int];by_cases h2:y.2≤x.2
    · rw[if_pos h2];refine fF (Int.not_lt.1 fun h3=>absurd ((AU x.2 y.2).1 h3) (by omega)) ?_;rw[c157 X hX _ _ (D8 _) (D8 _) (by omega) (wX h2) (by rw[dval,dval];exact h2),dval,dval];simp only[Option.bind_some,List.headD_cons,dM,List.drop_zero,List.take_length];rfl
    · rw[if_neg h2];refine dO (by have:=(AU x.2 y.2).2 (by omega);omega) ?_;rw[c157 X hX _ _ (D8 _) (D8 _) (by omega) (wX (by omega)) (by rw[dval,dval];omega),dval,dval];simp only[Option.bind_some,List.headD_cons,dM,List.drop_zero,List.take_length];rfl)
theorem c141 (hB:Words X) (x y:Nb) (hx:x.le 1000000) (hy:y.le 1000000):run tab X 141 [.p (eN x),.p (eN y)] []=some ([.p (eN (G9 x y))],[]) :=
 bF (hX _ rfl) (by have hx':(bK aZ x.2).length≤1000000:=hx;have hy':(bK aZ y.2).length≤1000000:=hy;rw[eN,eN,amw,c173 X hX hB _ _ (D8 _) (D8 _) (by omega),dval,dval];simp only[Option.bind_some,List.headD_cons,dM,List.drop_zero,List.take_length];rfl)
include hB
theorem ap8:∀ (y x:Nat),(bK aZ x).length≤90000→(bK aZ y).length≤90000→L tab (run tab X) 171 [] [.lp [1,0,0]] (J5 (nU x) (nU y))=some ([.p (.list false kU (nU (Nat.gcd x y)))],[]):=by
 intro y;induction y using Nat.strongRecOn with
 | ind y ih =>
  intro x hx hy;refine dW ?_;rw[adC];simp only[dI];rcases Nat.eq_zero_or_pos y with h | h
  · subst h;refine dO (by rw[gq];simp) ?_;rw[Nat.gcd_zero_right]
  · have hl:=G7 h;refine fF (by omega) ?_;rw[alp X hX hB x y h hx hy];simp only[Option.bind_some,List.headD_cons,List.tail_cons,dA,G6];rw[ih (x%y) (Nat.mod_lt _ h) y hy (Nat.le_trans (wX (Nat.le_of_lt (Nat.mod_lt _ h))) hy),Nat.gcd_comm x y,Nat.gcd_rec y x,Nat.gcd_comm y (x%y)]
theorem c171 (x y:Nat) (hx:(bK aZ x).length≤90000) (hy:(bK aZ y).length≤90000):run tab X 171 [.p (.list false kU (nU x)),.p (.list false kU (nU y))] []=some ([.p (.list false kU (nU (Nat.gcd x y)))],[]) :=
 bF (hX _ rfl) (by rw[amE];exact ap8 X hX hB y x hx hy)
theorem als (x y:Nb) (hx:x.le 90000) (hy:y.le 90000) (hp:0<y.2) (hd:y.2 ∣ x.2):run tab X 172 [.p (eN x),.p (eN y)] []=some ([.p (eN (!(x.1==y.1),x.2 / y.2)),.p (eN (false,0))],[]) :=
 bF (hX _ rfl) (by
  rw[eN,eN,amF,alp X hX hB x.2 y.2 hp hx hy,Nat.mod_eq_zero_of_dvd hd];have n0:nU 0=[]:=by rw[nU,gq];rfl
  rw[n0];simp only[Option.bind_some,List.headD_cons,List.tail_cons,dA,G6,dM,List.drop_zero,List.take_length];have e:some ([AV.p (PV.agg [PV.bool (!(x.1==y.1)),PV.list false kU (nU (x.2 / y.2))]),AV.p (PV.agg [PV.bool false,PV.list false kU []])],([]:List cu))=some ([.p (eN (!(x.1==y.1),x.2 / y.2)),.p (eN (false,0))],[]):=by rw[eN,eN,n0]
  revert e;generalize (!(x.1==y.1))=g;intro e;cases x.1 with
  | true=>rw[cond_true];exact dO (by decide) e
  | false=>exact e)
end
end Go.Skm.Fen
namespace Go.Skm.Dig
theorem O8 {b:Nat}:∀ {l:List Nat},ok b l→∀ i,l.getD i 0=val b l / b ^ i%b
 | [],_,i=>by simp[val]
 | d::r,h,0=>by have hd:=h d List.mem_cons_self;show d=(d+b*val b r) / b ^ 0%b;rw[Nat.pow_zero,Nat.div_one,Nat.add_mul_mod_self_left,Nat.mod_eq_of_lt hd]
 | d::r,h,i+1=>by have hd:=h d List.mem_cons_self;have ih:=O8 (fun x hx=>h x (List.mem_cons_of_mem _ hx):ok b r) i;show r.getD i 0=(d+b*val b r) / b ^ (i+1)%b;rw[ih,Nat.pow_succ',← Nat.div_div_eq_div_mul,Nat.add_comm,Nat.mul_add_div (by omega),Nat.div_eq_of_lt hd,Nat.add_zero]
theorem LG {b:Nat} (hb:2≤b) (n i:Nat):(bK b n).getD i 0=n / b ^ i%b:=by rw[O8 (yZ hb n),qo hb]
theorem adq (l:List Nat) (i:Nat) (h:i<l.length):l.reverse.getD i 0=l.getD (l.length-1-i) 0:=by rw[List.getD_eq_getElem?_getD,List.getD_eq_getElem?_getD,List.getElem?_reverse h]
theorem aby (n:Nat):(bK 256 n).length=((bK 2 n).length+7) / 8:=by
 rcases Nat.eq_zero_or_pos n with h | h
 · subst h;rw[gq,gq];rfl
 · have a1:=wZ (b:=2) (by decide) (n:=n);have a2:=JM (b:=2) (by decide) h;have b1:=wZ (b:=256) (by decide) (n:=n);have b2:=JM (b:=256) (by decide) h;have e:∀ k,256 ^ k=2 ^ (8*k):=fun k=>by rw[Nat.pow_mul]
   have p1:0<(bK 2 n).length:=List.length_pos_iff.2 fun h2=>by have:=(sD (b:=2) (by decide)).1 h2;omega
   have p2:0<(bK 256 n).length:=List.length_pos_iff.2 fun h2=>by have:=(sD (b:=256) (by decide)).1 h2;omega
   rw[e]at b1 b2;have h1:(bK 2 n).length-1<8*(bK 256 n).length:=(Nat.pow_lt_pow_iff_right (a:=2) (by decide)).1 (Nat.lt_of_le_of_lt a2 b1);have h2:8*((bK 256 n).length-1)<(bK 2 n).length:=(Nat.pow_lt_pow_iff_right (a:=2) (by decide)).1 (Nat.lt_of_le_of_lt b2 a1);omega
theorem abz (n k:Nat):n / 18446744073709551616 ^ (k / 8)%18446744073709551616 / 2 ^ (k%8*8)%256=n / 256 ^ k%256:=by
 have e1:(18446744073709551616:Nat) ^ (k / 8)=256 ^ (8*(k / 8)):=by rw[Nat.pow_mul]
 have e2:2 ^ (k%8*8)=256 ^ (k%8):=by rw[Nat.mul_comm,Nat.pow_mul]
 have e3:(18446744073709551616:Nat)=256 ^ (k%8)*256 ^ (8-k%8):=by rw[← Nat.pow_add,show k%8+(8-k%8)=8 by omega]
 have e4:256 ^ (8-k%8)=256*256 ^ (7-k%8):=by rw[← Nat.pow_succ',show (7-k%8).succ=8-k%8 by omega]
 rw[e1,e2];generalize hN:n / 256 ^ (8*(k / 8))=N;rw[e3,Nat.mod_mul_right_div_self,e4,Nat.mod_mul_right_mod,← hN,Nat.div_div_eq_div_mul,← Nat.pow_add,show 8*(k / 8)+k%8=k by omega]
theorem adr (n k:Nat):256 ^ k*(n / 256 ^ k)=256 ^ (k+1)*(n / 256 ^ (k+1))+256 ^ k*(n / 256 ^ k%256):=by
 have h:=Nat.div_add_mod (n / 256 ^ k) 256;rw[Nat.div_div_eq_div_mul,← Nat.pow_succ]at h;have h2:256 ^ k*(256*(n / 256 ^ (k+1))+n / 256 ^ k%256)=256 ^ k*(n / 256 ^ k):=by rw[h]
 rw[← h2,Nat.mul_add,← Nat.mul_assoc,← Nat.pow_succ]
theorem ads {l:List Nat} {n k:Nat} (h:ok 18446744073709551616 l) (hv:val 18446744073709551616 l=256 ^ (k+1)*n):l.getD (k / 8) 0%2 ^ (k%8*8+8)=0:=by
 have e1:(18446744073709551616:Nat) ^ (k / 8)=256 ^ (8*(k / 8)):=by rw[Nat.pow_mul]
 have e2:2 ^ (k%8*8+8)=256 ^ (k%8+1):=by rw[show k%8*8+8=8*(k%8+1) by omega,Nat.pow_mul]
 have e3:(18446744073709551616:Nat)=256 ^ (k%8+1)*256 ^ (7-k%8):=by rw[← Nat.pow_add,show k%8+1+(7-k%8)=8 by omega]
 have e4:256 ^ (k+1)=256 ^ (8*(k / 8))*256 ^ (k%8+1):=by rw[← Nat.pow_add,show 8*(k / 8)+(k%8+1)=k+1 by omega]
 rw[O8 h,hv,e1,e4,Nat.mul_assoc,Nat.mul_div_cancel_left _ (Nat.pow_pos (by decide)),e2];rw[e3,Nat.mod_mul_right_mod,Nat.mul_mod_right]
end Go.Skm.Dig
namespace Go.Skm.Fen
open Go Go.Skm Go.Skm.Dig
def OG (n:Nat):List Nat:=(bK 256 n).reverse
def rQ (n:Nat):ByteArray:=⟨((OG n).map UInt8.ofNat).toArray⟩
theorem WR (n:Nat):(OG n).length=(bK 256 n).length:=by rw[OG,List.length_reverse]
theorem D9 (n:Nat):(rQ n).size=(bK 256 n).length:=by show ((OG n).map UInt8.ofNat).toArray.size=_;rw[List.size_toArray,List.length_map,WR]
theorem YS (n i:Nat) (h:i<(bK 256 n).length):(OG n).getD i 0=n / 256 ^ ((bK 256 n).length-1-i)%256:=by rw[OG,adq _ _ h,LG (by decide)]
theorem YT (n i:Nat) (h:i<(bK 256 n).length):((rQ n).data.getD i 0).toNat=n / 256 ^ ((bK 256 n).length-1-i)%256:=by
 rw[← YS n i h];show (((OG n).map UInt8.ofNat).toArray.getD i 0).toNat=_;have hi:i<(OG n).length:=by rw[WR];exact h
 have hlt:(OG n)[i]<256:=yZ (b:=256) (by decide) n _ (List.mem_reverse.1 (List.getElem_mem hi));rw[qAb,List.getElem?_toArray,List.getElem?_map,qLd hi,qLb,qLd hi];show (UInt8.ofNat (OG n)[i]).toNat=(OG n)[i];rw[UInt8.toNat_ofNat',Nat.mod_eq_of_lt hlt]
theorem alu (n:Nat):(!dG (n:Int) 0)=true:=by simp
theorem orL {t m r:Nat} (ht:t<2 ^ r) (hr:r≤64) (hm:m<aZ) (hd:m%2 ^ r=0):IntKind.u64.wrap (((BitVec.ofInt IntKind.u64.bits (m:Int)) ||| (BitVec.ofInt IntKind.u64.bits (t:Int))).toNat:Nat)=((m+t:Nat):Int)∧m+t<aZ:=by have h:=orN ht hr hm hd;rw[BitVec.or_comm,Nat.add_comm m t];exact h
section
variable (X:Ext) (hX:Mine X)
include hX
theorem aqb (n m : Nat) (hm : (bK 256 n).length = m) (hs : m ≤ 1000000) : ∀ (k i : Nat) (out : List Nat),i + k = m → out.length = (m + 7) / 8 → ok aZ out → val aZ out = 256 ^ k * (n / 256 ^ k) →
    L tab (run tab X) 111 [] [.lp [1,1,0,1,0]] (Eh (rQ n) 0 ((m+7) / 8) m i (bP .u64 out))=some ([.fresh false kU (nU n)],[]):=by
  have _:=hX;intro k;induction k with
  | zero =>
   intro i out hi hlen hok hv;have him:i=m:=by omega
   subst him;refine dW ?_;rw[Px];refine dO (by omega) ?_;rw[Nat.pow_zero,Nat.one_mul,Nat.div_one]at hv;have ht:Dig.tight out:=by
    intro d hd h0;subst h0;have hne:out≠[]:=by intro h;rw[h]at hd;simp at hd
    obtain⟨init,hinit⟩:=List.getLast?_eq_some_iff.1 hd;have h1:val aZ init<aZ ^ init.length:=rW (fun x hx=>hok x (by rw[hinit];exact List.mem_append_left _ hx));have h2:val aZ out=val aZ init:=by rw[hinit,lT,Nat.mul_zero,Nat.add_zero]
    have h3:out.length=init.length+1:=by rw[hinit];simp
    have h4:aZ ^ init.length=256 ^ (8*init.length):=by rw[Nat.pow_mul]
    have hnp:0<n:=by
     rcases Nat.eq_zero_or_pos n with h | h
     · exfalso;subst h;rw[gq]at hm;simp at hm;omega
     · exact h
    have h5:=JM (b:=256) (by decide) hnp;rw[hm]at h5;have h6:256 ^ (8*init.length)≤256 ^ (i-1):=Nat.pow_le_pow_right (by decide) (by omega);omega
   have:=UR b64 hok ht hv;rw[← hlen,whole,this]
  | succ k ih =>
   intro i out hi hlen hok hv;refine dW ?_;rw[Px];refine fF (by omega) ?_;have a1:IntKind.i64.wrap ((((rQ n).size:Nat):Int)-1)=(((m-1:Nat)):Int):=by rw[D9,hm,wrap_eq (by omega) (by omega)];omega
   have a2:IntKind.i64.wrap ((((m-1:Nat)):Int)-(i:Int))=(k:Int):=by rw[wrap_eq (by omega) (by omega)];omega
   have a3:IntKind.i64.wrap ((k:Int).tdiv 8)=((k / 8:Nat):Int):=by rw[Int.tdiv_eq_ediv_of_nonneg (by omega),wrap_eq (by omega) (by omega)];omega
   have a4:IntKind.i64.wrap ((k:Int).tmod 8*8)=((k%8*8:Nat):Int):=by rw[Int.tmod_eq_emod_of_nonneg (by omega),wrap_eq (by omega) (by omega)];omega
   have a5:IntKind.i64.wrap ((i:Int)+1)=((i+1:Nat):Int):=by rw[wrap_eq (by omega) (by omega)];omega
   have r1:(leI (0:Int) ((k / 8:Nat):Int)&&dG ((k / 8:Nat):Int) (((m+7) / 8:Nat):Int))=true:=by simp;omega
   have r2:(leI (0:Int) (i:Int)&&dG (i:Int) (((rQ n).size:Nat):Int))=true:=by rw[D9,hm];simp;omega
   have n1:(!dG ((k%8*8:Nat):Int) 0)=true:=alu _;have m1:min (k%8*8) IntKind.u64.bits=k%8*8:=Nat.min_eq_left (show k%8*8≤64 by omega);have hby:=YT n i (by omega);rw[hm,show m-1-i=k by omega]at hby
   have hb256:n / 256 ^ k%256<256:=Nat.mod_lt _ (by decide);have hbt:n / 256 ^ k%256*2 ^ (k%8*8)<2 ^ (k%8*8+8):=by rw[Nat.add_comm,Nat.pow_add];exact Nat.mul_lt_mul_of_pos_right hb256 (Nat.pow_pos (by decide))
   have hb64:n / 256 ^ k%256*2 ^ (k%8*8)<aZ:=Nat.lt_of_lt_of_le hbt (Nat.pow_le_pow_right (n:=2) (by decide) (show k%8*8+8≤64 by omega));have hw:out.getD (k / 8) 0<aZ:=jL hok (by decide) _;obtain⟨o1,o2⟩:=orL hbt (by omega) hw (ads hok hv);simp only[a1,a2,a3,a4,a5];rw[r1,r2,n1,cond_true,cond_true,cond_true,cond_true];simp only[Int.toNat_natCast,Nat.zero_add,gK,m1,hby];rw[nJ (Nat.lt_trans hb256 (by decide)),ade,Nat.mod_eq_of_lt hb64,o1,lZ];refine ih (i+1) _ (by omega) (by simpa using hlen) (ae9 hok o2 _) ?_;have v:=WS aZ (out.getD (k / 8) 0+n / 256 ^ k%256*2 ^ (k%8*8)) out (k / 8) (by omega);rw[adr];rw[hv]at v;have e:aZ ^ (k / 8)*(n / 256 ^ k%256*2 ^ (k%8*8))=256 ^ k*(n / 256 ^ k%256):=by rw[show aZ ^ (k / 8)=256 ^ (8*(k / 8)) by rw[Nat.pow_mul],show 2 ^ (k%8*8)=256 ^ (k%8) by rw[Nat.mul_comm,Nat.pow_mul],Nat.mul_comm (n / 256 ^ k%256),← Nat.mul_assoc,← Nat.pow_add,show 8*(k / 8)+k%8=k by omega]
   rw[Nat.mul_add,e]at v;omega
theorem alv (n:Nat) (hs:(bK 256 n).length≤1000000):run tab X 111 [.p (.str (rQ n))] []=some ([.fresh false kU (nU n)],[]) :=
 bF (hX _ rfl) (by
  have a1:IntKind.i64.wrap (((bK 256 n).length:Int)+7)=(((bK 256 n).length+7:Nat):Int):=by rw[wrap_eq (by omega) (by omega)];omega
  have a3:IntKind.i64.wrap ((((bK 256 n).length+7:Nat):Int).tdiv 8)=((((bK 256 n).length+7) / 8:Nat):Int):=by rw[Int.tdiv_eq_ediv_of_nonneg (by omega),wrap_eq (by omega) (by omega)];omega
  have go:(leI (0:Int) ((((bK 256 n).length+7) / 8:Nat):Int)&&(leI ((((bK 256 n).length+7) / 8:Nat):Int) ((((bK 256 n).length+7) / 8:Nat):Int)&&leI ((((bK 256 n).length+7) / 8:Nat):Int) (2147483648:Int)))=true:=by simp;omega
  rw[amk,D9];simp only[a1,a3];rw[go,cond_true,Int.toNat_natCast,l9];refine aqb X hX n _ rfl hs (bK 256 n).length 0 _ (by omega) (by simp) (Sz (by decide) _) ?_;rw[Hg,Nat.div_eq_of_lt (wZ (by decide)),Nat.mul_zero])
end
end Go.Skm.Fen
namespace Go.Skm.Fen
open Go Go.Skm Go.Skm.Dig
theorem Kz (l:List Nat):bytesOf (bP .u8 l)=⟨(l.map UInt8.ofNat).toArray⟩:=by rw[bytesOf,bP,List.map_map];rfl
theorem SB (n:Nat):(bK 256 n).length=(bl n+7) / 8:=aby n
def eW (z:Int):PV:=.agg [.bool (decide (z<0)),.str (rQ z.natAbs)]
theorem FY:rQ 0=⟨#[]⟩:=by rw[rQ,OG,gq];rfl
theorem agn:eW 0=.agg [.bool false,.str ⟨#[]⟩]:=by show PV.agg [.bool (decide ((0:Int)<0)),.str (rQ 0)]=_;rw[FY];rfl
theorem Nb.SC (x:Nb):x.z.natAbs=x.2:=by obtain⟨a,m⟩:=x;unfold Nb.z;cases a<;>simp
theorem agp {n k:Nat} (h:(bK aZ n).length≤k):bl n≤64*k:=Kr (by rw[Nat.pow_mul];exact EU h)
section
variable (X:Ext) (hX:Mine X) (hB:Bits X)
include hX
theorem aqc (n m : Nat) (hm : (bK 256 n).length = m) (hs : m ≤ 1000000) : ∀ (k i : Nat),i + k = m →
    L tab (run tab X) 154 [] [.lp [1,1,0,1,0]] (Ei (nU n) 0 m m i (bP .u8 ((OG n).take i++List.replicate (m-i) 0)))=some ([.p (.str (rQ n))],[]):=by
  have _:=hX;have hbl:(OG n).length=m:=by rw[WR,hm]
  intro k;induction k with
  | zero =>
   intro i hi;have him:i=m:=by omega
   subst him;refine dW ?_;rw[Pz];refine dO (by omega) ?_;rw[Nat.sub_self,List.replicate_zero,List.append_nil,List.take_of_length_le (l:=OG n) (by omega),List.drop_zero,List.take_of_length_le (l:=bP .u8 (OG n)) (by rw[dI];omega),Kz];rfl
  | succ k ih =>
   intro i hi;refine dW ?_;rw[Pz];refine fF (by omega) ?_;have a1:IntKind.i64.wrap ((m:Int)-1)=(((m-1:Nat)):Int):=by rw[wrap_eq (by omega) (by omega)];omega
   have a2:IntKind.i64.wrap ((((m-1:Nat)):Int)-(i:Int))=(k:Int):=by rw[wrap_eq (by omega) (by omega)];omega
   have a3:IntKind.i64.wrap ((k:Int).tdiv 8)=((k / 8:Nat):Int):=by rw[Int.tdiv_eq_ediv_of_nonneg (by omega),wrap_eq (by omega) (by omega)];omega
   have a4:IntKind.i64.wrap ((k:Int).tmod 8*8)=((k%8*8:Nat):Int):=by rw[Int.tmod_eq_emod_of_nonneg (by omega),wrap_eq (by omega) (by omega)];omega
   have a5:IntKind.i64.wrap ((i:Int)+1)=((i+1:Nat):Int):=by rw[wrap_eq (by omega) (by omega)];omega
   have hk8:k / 8<(bK aZ n).length:=by
    rcases Nat.lt_or_ge (k / 8) (bK aZ n).length with h | h
    · exact h
    · exfalso;have h1:=EU h;rw[show aZ ^ (k / 8)=256 ^ (8*(k / 8)) by rw[Nat.pow_mul]]at h1;have h2:=qp (b:=256) (by decide) h1;omega
   have r1:(leI (0:Int) ((k / 8:Nat):Int)&&dG ((k / 8:Nat):Int) (((nU n).length:Nat):Int))=true:=by rw[dI];simp;omega
   have r2:(leI (0:Int) (i:Int)&&dG (i:Int) (m:Int))=true:=by simp;omega
   have m1:min (k%8*8) IntKind.u64.bits=k%8*8:=Nat.min_eq_left (show k%8*8≤64 by omega);have hby:=YS n i (by omega);rw[hm,show m-1-i=k by omega]at hby
   have w8:IntKind.u8.wrap (((bK aZ n).getD (k / 8) 0 / 2 ^ (k%8*8):Nat):Int)=((n / 256 ^ k%256:Nat):Int):=by rw[← abz,LG b64];show (_:Int)%2 ^ 8=_;norm_cast
   simp only[a1,a2,a3,a4,a5];rw[r1,alu,r2,cond_true,cond_true,cond_true];simp only[Int.toNat_natCast,Nat.zero_add,gK,m1,Oq,w8];have hset:((OG n).take i++List.replicate (m-i) 0).set i (n / 256 ^ k%256)=(OG n).take (i+1)++List.replicate (m-(i+1)) 0:=by
    rw[List.take_succ_eq_append_getElem (by omega),show m-i=(m-(i+1))+1 by omega];have hl:((OG n).take i).length=i:=by simp;omega
    have:=set_mid ((OG n).take i) (m-(i+1)) (n / 256 ^ k%256);rw[hl]at this;rw[this,← hby,qLb,qLd (by omega)];rfl
   rw[lZ,hset];exact ih (i+1) (by omega)
include hB
theorem c154 (n:Nat) (hs:(bK aZ n).length≤100000):run tab X 154 [.p (.list false kU (nU n))] []=some ([.p (.str (rQ n))],[]) :=
 bF (hX _ rfl) (by
  have hbl:bl n≤64*100000:=agp hs;have h256:=SB n;have a1:IntKind.i64.wrap ((bl n:Int)+7)=((bl n+7:Nat):Int):=by rw[wrap_eq (by omega) (by omega)];omega
  have a3:IntKind.i64.wrap (((bl n+7:Nat):Int).tdiv 8)=((bK 256 n).length:Int):=by rw[Int.tdiv_eq_ediv_of_nonneg (by omega),wrap_eq (by omega) (by omega)];omega
  have go:(leI (0:Int) ((bK 256 n).length:Int)&&(leI ((bK 256 n).length:Int) ((bK 256 n).length:Int)&&leI ((bK 256 n).length:Int) (2147483648:Int)))=true:=by simp;omega
  rw[e154,ahW X hX hB _ (D8 n) (G8 n) (by omega),dval];simp only[Option.bind_some,List.headD_cons,dA,toInt_int,a1,a3];rw[go,cond_true,Int.toNat_natCast,l9];exact aqc X hX n _ rfl (by omega) (bK 256 n).length 0 (by omega))
theorem aqd (x:Nb) (hx:x.le 100000):run tab X 114 [.p (eN x)] []=some (if 65536<bl x.2 then [.p (eW 0),.p (.int .i64 7)] else [.p (eW x.z),.p (.int .i64 0)],[]) :=
 bF (hX _ rfl) (by
  have hx':(bK aZ x.2).length≤100000:=hx;rw[eN,amn,ahW X hX hB _ (D8 _) (G8 _) (by omega),dval];simp only[Option.bind_some,List.headD_cons,dA,toInt_int,dI];by_cases h:65536<bl x.2
  · rw[if_pos h,agn];exact fF (by omega) rfl
  · rw[if_neg h];refine dO (by omega) ?_;rw[c154 X hX hB _ hx'];simp only[Option.bind_some,List.headD_cons,dA,ac6];rw[eW,Nb.SC];have hz:decide (x.z<0)=(x.1&&decide (0<x.2)):=by obtain⟨a,m⟩:=x;unfold Nb.z;cases a<;>simp<;>omega
    rw[hz];by_cases hp:0<x.2
    · have:=G7 hp;rw[show kX ((bK aZ x.2).length:Int) 0=true by simp;exact this,show decide (0<x.2)=true by simpa using hp];cases x.1<;>rfl
    · have h0:x.2=0:=by omega
      rw[h0,gq];cases x.1<;>rfl)
end
end Go.Skm.Fen
