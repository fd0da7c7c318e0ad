import Derived.Test.YtoheflpoanjihaaGreatG7
set_option linter.all false
namespace Go.Skm.Fen
open Go Go.Skm
theorem zU(l:List V3){i:Nat}(h:i<l.length):(nX l l.length).getD i .nil=sW (flat (ca l i)) (flat (cb l i)):=by grind[nX]
section
variable (X:Ext) (hX:Mine X)
include hX
theorem l13i(l:List V3)(s:3<=l.length)(z:l.length<=64)(j:l.all (inM 1048576)=true)(i:Nat)(u:i<l.length)(R:Bool)
    (hnext:L tab (run tab X) 13 [] [.lp [1,1,1,0,1,0]] (uf 0 l.length ((i+1:Nat):Int) (nX l l.length))=some ([Ac R],[])):∀ m k,k+m=l.length ->
    L tab (run tab X) 13 [] [.lp [1,1,1,0,1,0],.lp [1,0,0,1,1,0]] (fG 0 l.length (i:Int) (k:Int) (nX l l.length))=some ([Ac (jC (okD l i) k m&&R)],[]):=by
  intro m;induction m with
  | zero =>intro k v;refine L_of ?_;rw[uO,xO (by omega),qCf,dL (by omega)];exact hnext
  | succ m y =>
   intro k v;have g:k<l.length:=by omega
   have f:=λi=>IV (IX j i);have o:=λ(a b p:V3) r f hp=>c45 X hX a b p r f hp;have t:=λ(a b c d:V3) r f w hd=>c46 X hX a b c d r f w hd;simp only[encV,sW]at o t;have q:jC (okD l i) k (m+1)=(okD l i k&&jC (okD l i) (k+1) m):=rfl;have next:∀ b:Bool,b=!okD l i k->(bif b then some ([Ac false],([]:List Blk))else L tab (run tab X) 13 [] [.lp [1,1,1,0,1,0],.lp [1,0,0,1,1,0]] (fG 0 l.length (i:Int) ((k+1:Nat):Int) (nX l l.length)))=some ([Ac ((okD l i k&&jC (okD l i) (k+1) m)&&R)],[]):=by grind
   refine L_of ?_;rw[uO,rZ g,qCt,beqN,q];by_cases h:k=i
   . rw[decide_eq_true h,qCt,dL (by omega)];have e:okD l i k=true:=by rw[okD,if_pos h]
     grind
   rw[decide_eq_false h,qCf,nz (by omega),qCt,dL (by omega),dL (by omega),KI,KI,beqN,beqN];simp only[rng u,rng g,qCt,qIt,qNz,zU l u,zU l g,sW,cell_agg,qLz,List.getD_cons_succ,toInt_int];by_cases n:k=oP l.length i
   . rw[decide_eq_true n,qCt,o _ _ _ (f _) (f _) (f _),qOb];simp only[qLh,pv_p,toBool_bool];have e:okD l i k=(!xP (ca l i) (cb l i) (cb l k)&&!xP (ca l k) (cb l k) (ca l i)):=by rw[okD,if_neg h,if_pos n]
     rw[KJ,o _ _ _ (f _) (f _) (f _),KJ,qOb];simp only[qLh,pv_p,toBool_bool];cases s:xP (ca l i) (cb l i) (cb l k)with
     | true =>
      have x:okD l i k=false:=by rw[e,s];rfl
      rw[x];rfl
     | false =>rw[qCf];exact next _ (by rw[e,s];cases xP (ca l k) (cb l k) (ca l i)<;>rfl)
   . rw[decide_eq_false n,qCf];by_cases h4:i=oP l.length k
     . rw[decide_eq_true h4,qCt];have e:okD l i k=true:=by rw[okD,if_neg h,if_neg n,if_pos h4]
       grind
     . rw[decide_eq_false h4,qCf,t _ _ _ _ (f _) (f _) (f _) (f _),MX,qOb];simp only[qLh,pv_p,toBool_bool];exact next _ (by rw[okD,if_neg h,if_neg n,if_neg h4,Bool.not_not])
theorem l13(l:List V3)(h:3<=l.length)(f:l.length<=64)(b:l.all (inM 1048576)=true):∀ m i,i+m=l.length ->
    L tab (run tab X) 13 [] [.lp [1,1,1,0,1,0]] (uf 0 l.length (i:Int) (nX l l.length))=some ([Ac (jC (λi=>Ol l i&&jC (okD l i) 0 l.length) i m)],[]):=by
  intro m;induction m with
  | zero =>intro i g;refine L_of ?_;rw[EJ,xO (by omega),qCf];rfl
  | succ m d =>
   intro i g;have a:i<l.length:=by omega
   refine L_of ?_;rw[EJ,rZ a,qCt];simp only[le0,Bool.and_true,qCt,qIt,qNz,zU l a,sW,cell_agg,qLz,List.getD_cons_succ,toInt_int];have j:=l13i X hX l h f b i a _ (d (i+1) (by omega)) l.length 0 (by omega);have c:jC (λi=>Ol l i&&jC (okD l i) 0 l.length) i (m+1)=((Ol l i&&jC (okD l i) 0 l.length)&&jC (λi=>Ol l i&&jC (okD l i) 0 l.length) (i+1) m):=rfl;have e:((flat (ca l i)).z==(flat (cb l i)).z)=true:=rfl;rw[c,Bool.and_assoc,Ol,e,Bool.and_true];show(bif ((ca l i).x==(cb l i).x)&&((ca l i).y==(cb l i).y)then _ else _)=_;grind
theorem c13(l:List V3)(b:l.length<=1000000):run tab X 13 [Al (encL l)] []=some ([Ac (J5 l)],[]):=
 run_of (hX _ rfl) (by
  rw[e13,encL_length,J5,Dw];by_cases d:l.length<3
  . grind
  rw[show ltI ((l.length:Nat):Int) (3:Int)=false from decide_eq_false (by omega),qCf];by_cases c:64<l.length
  . grind
  rw[show gtI ((l.length:Nat):Int) (64:Int)=false from decide_eq_false (by omega),qCf,decide_eq_true (show 3<=l.length/\l.length<=64 by omega),Bool.true_and,c43 X hX l b,qOb];simp only[qLh,pv_p,toBool_bool];cases a:l.all (inM 1048576)with
  | false=>rfl
  | true =>rw[qBt,qCf,Bool.true_and,c44 X hX l b,qOb];simp only[qLh,AV.freshList,vG];exact l13 X hX l (by omega) (by omega) a l.length 0 (by omega))
end
theorem FY(a b c d:V3):sD a b c d=sD c d a b:=by grind[sD]
theorem Jc(l:List V3)(m:3<=l.length){i k:Nat}(g:i<k)(j:k<l.length):Jb l i k=(okD l i k&&okD l k i):=by
 have h:oP l.length i=i+1:=Nat.mod_eq_of_lt (by omega);have d:¬ k=i:=by omega
 have a:¬ i=k:=by omega
 unfold Jb okD;rw[if_neg d,if_neg a,h];by_cases c:k=i+1
 . rw[if_pos c,if_pos c];have f:¬ i=oP l.length k:=by
    by_cases e:k+1=l.length
    . grind[Nat.mod_self,oP]
    . have:oP l.length k=k+1:=Nat.mod_eq_of_lt (by omega);omega
   grind
 . rw[if_neg c,if_neg c];by_cases f:oP l.length k=i
   . grind
   . have b:¬ i=oP l.length k:=λe=>f e.symm;rw[if_neg f,if_neg b,if_neg b,if_neg c,FY (ca l k),qBs]
theorem Fp(l:List V3):J5 l=dO l:=by
 unfold J5 dO;cases d:Dw l with
 | false=>rfl
 | true =>
  rw[Bool.true_and,Bool.true_and,Bool.eq_iff_iff,jo,jo];have c:3<=l.length:=by unfold Dw at d;grind
  constructor
  . intro h i _ b;have:=h i (by omega) b;simp only[qBa,jo]at this ⊢;refine⟨this.1,λk g f=>?_⟩;rw[Jc l c (by omega) (by omega),this.2 k (by omega) (by omega)];have:=h k (by omega) (by omega);simp_all[qBa,jo]
  . intro h i _ b;have h':=h i (by omega) b;simp only[qBa,jo]at h' ⊢;refine⟨h'.1,λk g f=>?_⟩;rcases Nat.lt_trichotomy i k with e | e | e
    . have:=h'.2 k (by omega) (by omega);rw[Jc l c e (by omega),qBa]at this;exact this.1
    . rw[okD,if_pos e.symm]
    . have a:=h k (by omega) (by omega);simp only[qBa,jo]at a;have:=a.2 i (by omega) (by omega);rw[Jc l c e (by omega),qBa]at this;exact this.2
end Go.Skm.Fen
