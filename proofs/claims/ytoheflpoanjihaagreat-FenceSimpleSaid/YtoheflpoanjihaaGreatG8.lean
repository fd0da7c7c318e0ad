import Derived.Test.YtoheflpoanjihaaGreatG7
namespace Go.Skm.Fen
open Go Go.Skm
theorem Jq (l:List V3) {i:Nat} (h:i<l.length):(um l l.length).getD i .nil=SY (flat (ca l i)) (flat (cb l i)):=by rw[um,qLb,List.getElem?_map,List.getElem?_range h];rfl
section
variable (X:Ext) (hX:Mine X)
include hX
theorem an7 (l : List V3) (h3 : 3 ≤ l.length) (hl : l.length ≤ 64) (hall : l.all (vO 1048576) = true) (i : Nat) (hi : i < l.length) (R : Bool)
    (hnext:L tab (run tab X) 13 [] [.lp [1,1,1,0,1,0]] (zW 0 l.length ((i+1:Nat):Int) (um l l.length))=some ([.p (.bool R)],[])):∀ m k,k+m=l.length →
    L tab (run tab X) 13 [] [.lp [1,1,1,0,1,0],.lp [1,0,0,1,1,0]] (iI 0 l.length (i:Int) (k:Int) (um l l.length))=some ([.p (.bool (pU (okD l i) k m&&R))],[]):=by
  intro m;induction m with
  | zero =>intro k hk;refine dW ?_;rw[Bj,SQ (by omega),cond_false,lW (by omega)];exact hnext
  | succ m ih =>
   intro k hk;have hkl:k<l.length:=by omega
   have hb:=fun i=>Vo (Vp hall i);have o:=fun (a b p:V3) ha hb hp=>c45 X hX a b p ha hb hp;have mt:=fun (a b c d:V3) ha hb hc hd=>c46 X hX a b c d ha hb hc hd;simp only[dn,SY]at o mt;have key:pU (okD l i) k (m+1)=(okD l i k&&pU (okD l i) (k+1) m):=rfl;have next:∀ b:Bool,b=!okD l i k→(bif b then some ([AV.p (.bool false)],([]:List cu)) else L tab (run tab X) 13 [] [.lp [1,1,1,0,1,0],.lp [1,0,0,1,1,0]] (iI 0 l.length (i:Int) ((k+1:Nat):Int) (um l l.length)))=some ([.p (.bool ((okD l i k&&pU (okD l i) (k+1) m)&&R))],[]):=by
    intro b hb;cases hk:okD l i k with
    | false=>rw[hk]at hb;subst hb;rfl
    | true =>rw[hk]at hb;subst hb;rw[Bool.not_true,cond_false,Bool.true_and];exact ih (k+1) (by omega)
   refine dW ?_;rw[Bj,Hw hkl,cond_true,acd,key];by_cases h1:k=i
   · rw[decide_eq_true h1,cond_true,lW (by omega)];have e:okD l i k=true:=by rw[okD,if_pos h1]
     rw[e,Bool.true_and];exact ih (k+1) (by omega)
   rw[decide_eq_false h1,cond_false,nz (by omega),cond_true,lW (by omega),lW (by omega),XO,XO,acd,acd];simp only[rng hi,rng hkl,cond_true,Int.toNat_natCast,Nat.zero_add,Jq l hi,Jq l hkl,SY,DJ,List.getD_cons_zero,List.getD_cons_succ,toInt_int];by_cases h2:k=Ba l.length i
   · rw[decide_eq_true h2,cond_true,o _ _ _ (hb _) (hb _) (hb _),Option.bind_some];simp only[List.headD_cons,dA,bD];have e:okD l i k=(!EY (ca l i) (cb l i) (cb l k)&&!EY (ca l k) (cb l k) (ca l i)):=by rw[okD,if_neg h1,if_pos h2]
     rw[XP,o _ _ _ (hb _) (hb _) (hb _),XP,Option.bind_some];simp only[List.headD_cons,dA,bD];cases h3:EY (ca l i) (cb l i) (cb l k) with
     | true =>
      have e':okD l i k=false:=by rw[e,h3];rfl
      rw[e'];rfl
     | false =>rw[cond_false];exact next _ (by rw[e,h3];cases EY (ca l k) (cb l k) (ca l i)<;>rfl)
   · rw[decide_eq_false h2,cond_false];by_cases h4:i=Ba l.length k
     · rw[decide_eq_true h4,cond_true];have e:okD l i k=true:=by rw[okD,if_neg h1,if_neg h2,if_pos h4]
       rw[e,Bool.true_and];exact ih (k+1) (by omega)
     · rw[decide_eq_false h4,cond_false,mt _ _ _ _ (hb _) (hb _) (hb _) (hb _),Zv,Option.bind_some];simp only[List.headD_cons,dA,bD];exact next _ (by rw[okD,if_neg h1,if_neg h2,if_neg h4,Bool.not_not])
theorem l13 (l : List V3) (h3 : 3 ≤ l.length) (hl : l.length ≤ 64) (hall : l.all (vO 1048576) = true) : ∀ m i,i + m = l.length →
    L tab (run tab X) 13 [] [.lp [1,1,1,0,1,0]] (zW 0 l.length (i:Int) (um l l.length))=some ([.p (.bool (pU (fun i=>okE l i&&pU (okD l i) 0 l.length) i m))],[]):=by
  intro m;induction m with
  | zero =>intro i hi;refine dW ?_;rw[Pm,SQ (by omega),cond_false];rfl
  | succ m ih =>
   intro i hi;have hil:i<l.length:=by omega
   refine dW ?_;rw[Pm,Hw hil,cond_true];simp only[le0,Bool.and_true,cond_true,Int.toNat_natCast,Nat.zero_add,Jq l hil,SY,DJ,List.getD_cons_zero,List.getD_cons_succ,toInt_int];have h1:=an7 X hX l h3 hl hall i hil _ (ih (i+1) (by omega)) l.length 0 (by omega);have key:pU (fun i=>okE l i&&pU (okD l i) 0 l.length) i (m+1)=((okE l i&&pU (okD l i) 0 l.length)&&pU (fun i=>okE l i&&pU (okD l i) 0 l.length) (i+1) m):=rfl;have hz:((flat (ca l i)).z==(flat (cb l i)).z)=true:=rfl;rw[key,Bool.and_assoc,okE,hz,Bool.and_true];show (bif ((ca l i).x==(cb l i).x)&&((ca l i).y==(cb l i).y) then _ else _)=_;cases ((ca l i).x==(cb l i).x)&&((ca l i).y==(cb l i).y) with
   | false=>rw[cond_false,Bool.not_false,Bool.true_and];exact h1
   | true=>rfl
theorem c13 (l:List V3) (hl:l.length≤1000000):run tab X 13 [.p (.list true aW (dh l))] []=some ([.p (.bool (aa2 l))],[]) :=
 bF (hX _ rfl) (by
  rw[e13,lH,aa2,P9];by_cases h1:l.length<3
  · rw[show dG ((l.length:Nat):Int) (3:Int)=true from decide_eq_true (by omega),cond_true,decide_eq_false (by omega)];rfl
  rw[show dG ((l.length:Nat):Int) (3:Int)=false from decide_eq_false (by omega),cond_false];by_cases h2:64<l.length
  · rw[show kX ((l.length:Nat):Int) (64:Int)=true from decide_eq_true (by omega),cond_true,decide_eq_false (by omega)];rfl
  rw[show kX ((l.length:Nat):Int) (64:Int)=false from decide_eq_false (by omega),cond_false,decide_eq_true (show 3≤l.length∧l.length≤64 by omega),Bool.true_and,c43 X hX l hl,Option.bind_some];simp only[List.headD_cons,dA,bD];cases hall:l.all (vO 1048576) with
  | false=>rfl
  | true =>rw[Bool.not_true,cond_false,Bool.true_and,c44 X hX l hl,Option.bind_some];simp only[List.headD_cons,AV.aU,Ce];exact l13 X hX l (by omega) (by omega) hall l.length 0 (by omega))
end
theorem Zw (a b c d:V3):BA a b c d=BA c d a b:=by unfold BA;rw[Bool.and_comm (decide (nK c d a*nK c d b<0))];cases EY a b c<;>cases EY a b d<;>cases EY c d a<;>cases EY c d b<;>simp
theorem VB (l:List V3) (h3:3≤l.length) {i k:Nat} (hik:i<k) (hk:k<l.length):S9 l i k=(okD l i k&&okD l k i):=by
 have e1:Ba l.length i=i+1:=Nat.mod_eq_of_lt (by omega);have hne:¬ k=i:=by omega
 have hne':¬ i=k:=by omega
 unfold S9 okD;rw[if_neg hne,if_neg hne',e1];by_cases h1:k=i+1
 · rw[if_pos h1,if_pos h1];have h2:¬ i=Ba l.length k:=by
    by_cases e:k+1=l.length
    · have:Ba l.length k=0:=by unfold Ba;rw[e,Nat.mod_self]
      omega
    · have:Ba l.length k=k+1:=Nat.mod_eq_of_lt (by omega);omega
   rw[if_neg h2,if_pos h1,Bool.and_true]
 · rw[if_neg h1,if_neg h1];by_cases h2:Ba l.length k=i
   · rw[if_pos h2,if_pos h2.symm,if_pos h2.symm,Bool.true_and,Bool.and_comm]
   · have h2':¬ i=Ba l.length k:=fun e=>h2 e.symm;rw[if_neg h2,if_neg h2',if_neg h2',if_neg h1,Zw (ca l k),Bool.and_self]
theorem ad9 (l:List V3):aa2 l=lG l:=by
 unfold aa2 lG;cases hh:P9 l with
 | false=>rfl
 | true =>
  rw[Bool.true_and,Bool.true_and,Bool.eq_iff_iff,Am,Am];have h3:3≤l.length:=by unfold P9 at hh;simp only[qBa,qDa]at hh;exact hh.1.1
  constructor
  · intro h i _ hi;have:=h i (by omega) hi;simp only[qBa,Am]at this ⊢;refine⟨this.1,fun k h1 h2=>?_⟩;rw[VB l h3 (by omega) (by omega),this.2 k (by omega) (by omega)];have:=h k (by omega) (by omega);simp only[qBa,Am]at this;rw[this.2 i (by omega) (by omega)];rfl
  · intro h i _ hi;have h':=h i (by omega) hi;simp only[qBa,Am]at h' ⊢;refine⟨h'.1,fun k h1 h2=>?_⟩;rcases Nat.lt_trichotomy i k with e | e | e
    · have:=h'.2 k (by omega) (by omega);rw[VB l h3 e (by omega),qBa]at this;exact this.1
    · rw[okD,if_pos e.symm]
    · have h'':=h k (by omega) (by omega);simp only[qBa,Am]at h'';have:=h''.2 i (by omega) (by omega);rw[VB l h3 e (by omega),qBa]at this;exact this.2
end Go.Skm.Fen
