import Derived.Test.YtoheflpoanjihaaGreatJ7
import Derived.Test.YtoheflpoanjihaaGreatG19
import Derived.Test.YtoheflpoanjihaaGreatL5
set_option linter.all false
namespace Go.Skm.Fen
open Go Go.Skm
section
open Go.Skm.Dig
variable {d m n q u v w:Int}{k:Nat}
section
variable (X:Ext) (hX:Mine X)
include hX
theorem l68(A:List PV)(z y:Int)(a:List (List V3))(o:∀ h∈a,dM h=true)(B:a.length<=16)(h:Uf n d m q u v w k)(j:0<w)(t:3<=k)(l:k<=60000):∀(r:List (List V3)) (i:Nat),a.drop i=r->i<=a.length ->
    L tab (run tab X) 68 [] [.lp [1,1,0,1,0]] (yH (i:Int) A (bI a) z y (decide (n<0)) (nI n.natAbs) (decide (d<0)) (nI d.natAbs) (decide (m<0)) (nI m.natAbs) (decide (q<0)) (nI q.natAbs))=some ([.p (.bool (!(r.any λh=>decide (0<wW h u v w))))],[]):=by
  intro r;induction r with
  | nil =>intro i hd b;have c:i=a.length:=Nat.le_antisymm b (List.drop_eq_nil_iff.1 hd);subst c;refine L_of ?_;rw[GX,bG,y8 (by omega),qCf];rfl
  | cons x r g =>
   intro i hd _;have e:a[i]?=some x:=by have:=congrArg (·[0]?) hd;simpa using this
   have b:=(qLa.1 e).1;have s:gh a i=x:=by simp[gh,List.getD,e]
   have f:=c49 X hX (o x (qLe e)) h j t l;rw[Gl]at f;refine L_of ?_;rw[GX,bG,rM b,qCt];simp only[rng b,qCt,qIt,gJ a b,s,dZ (show i<=9000000000000000000 by omega)];show(run tab X 49 [.p (.list true kV3 (encL x)),_] []).bind _=_;rw[f,qOb,List.any_cons];simp only[qLh,pv_p,toInt_int];rw[show gtI (wW x u v w) 0=decide (0<wW x u v w) from rfl];cases decide (0<wW x u v w)with
   | true=>rfl
   | false=>rw[qCf,Bool.false_or];exact g (i+1) (by rw[<- List.drop_drop,hd];rfl) b
theorem OU{f:Fen}(a:validP f=true):f.holes.length<=16:=by have _:=hX;unfold validP AB at a;simp only[qBa,qDa]at a;exact a.1.2.1
theorem c68(f:Fen)(b:validP f=true)(h:Uf n d m q u v w k)(a:0<w)(g:3<=k)(e:k<=60000):run tab X 68 [.p (encF f),.p (Gl n d m q)] []=some ([.p (.bool (Lh f u v w))],[]):=by
 obtain⟨l,j⟩:=kD b;have i:=c49 X hX l h a g e;rw[Gl]at i ⊢;refine run_of (hX _ rfl) ?_;rw[encF,e68,i,qOb];simp only[qLh,pv_p,toInt_int];unfold Lh;by_cases c:0<=wW f.outer u v w
 . rw[show ltI (wW f.outer u v w) 0=false from decide_eq_false (by omega),qCf,decide_eq_true c,Bool.true_and];exact l68 X hX (encL f.outer) f.low f.high f.holes j (OU X hX b) h a g e f.holes 0 qLy (Nat.zero_le _)
 . rw[show ltI (wW f.outer u v w) 0=true from decide_eq_true (by omega),qCt,decide_eq_false c];rfl
theorem c25(f:Fen)(j:validP f=true)(h:Uf n d m q u v w k)(x:0<w){a b N D:Int}(i:Jg (eQ a b) N D k)(l:0<D)(g:3<=k)(C:k<=60000) :
    run tab X 25 [.p (encF f),.p (Gl n d m q),.p (eQ a b)] []=some ([.p (.bool ((decide (f.low*D<=N)&&decide (N<=f.high*D))&&Lh f u v w))],[]):=by
  obtain⟨_,B,A,z,y⟩:=ou j;have e:=c68 X hX f j h x g C;have t:=(OM X hX (a:=f.low) ⟨by omega,by omega⟩ i l g (by omega)).1;have s:=(OM X hX (a:=f.high) ⟨by omega,by omega⟩ i l g (by omega)).2;have r:=c57 X hX f.low (by omega) (by omega);have o:=c57 X hX f.high (by omega) (by omega);have E:=@mg (f.low*D-N);have s2:=@mg (N-f.high*D);refine run_of (hX _ rfl) ?_;rw[encF]at e ⊢;rw[Gl]at e ⊢;rw[show eQ a b=PV.agg [PV.bool (decide (a<0)),PV.list false kI (nI a.natAbs),PV.bool (decide (b<0)),PV.list false kI (nI b.natAbs)] from rfl,e25,r];simp only[qOb,qLh,pv_p,uF];rw[CJ a b,t];simp only[qOb,qLh,pv_p,toInt_int];by_cases c:f.low*D<=N
  . rw[show leI (iC (f.low*D-N)) 0=true from decide_eq_true (by omega),qCt,o,decide_eq_true c];simp only[qOb,qLh,pv_p,uF];rw[s];simp only[qOb,qLh,pv_p,toInt_int];by_cases c2:N<=f.high*D
    . rw[show leI (iC (N-f.high*D)) 0=true from decide_eq_true (by omega),qCt,e,decide_eq_true c2];rfl
    . rw[show leI (iC (N-f.high*D)) 0=false from decide_eq_false (by omega),qCf,decide_eq_false c2];rfl
  . rw[show leI (iC (f.low*D-N)) 0=false from decide_eq_false (by omega),qCf,decide_eq_false c];rfl
theorem c22(f:Fen)(i:validP f=true)(p:V3)(hp:mW p):run tab X 22 [.p (encF f),.p (encV p)] []=some ([.p (.bool (rO f p))],[]):=by have h:=hp;obtain⟨_,_,⟨a,b⟩⟩:=h;have c:=c50 X hX p hp;have g:=c57 X hX p.z (by omega) (by omega);have e:=c25 X hX f i (QB hp) (by decide) (n24 X hX ⟨a,b⟩) (by decide) (by decide) (by decide);refine run_of (hX _ rfl) ?_;rw[encF]at e ⊢;rw[encV]at c ⊢;rw[e22,c];simp only[qOb,qLh,pv_p,QC];rw[g];simp only[qOb,qLh,pv_p,uF];rw[e];simp only[qOb,qLh,pv_p,toBool_bool];unfold rO;rw[Int.mul_one,Int.mul_one]
end
end
section
section
variable (X:Ext) (hX:Mine X)
include hX
variable (hB:Bits X) (hE:zl X) (hS:Sorts X)
include hB hE hS
theorem l5(f:Fen)(k:nO f)(l:List V3)(q:l.length<=20):∀(r:List V3) (i:Nat),l.drop i=r->i<=l.length ->
    L tab (run tab X) 5 [] [.lp [1,1,1,0,1,0]] (su (validP f) (encL l) (l.length:Int) (i:Int) (encL f.outer) (bI f.holes) f.low f.high)=some ([.p (.bool true)],[]):=by
  intro r;induction r with
  | nil =>intro i hd d;have e:i=l.length:=Nat.le_antisymm d (List.drop_eq_nil_iff.1 hd);subst e;refine L_of ?_;rw[GY,y8 (by omega),qCf,c11 X hX hB hE hS];rfl
  | cons p r j =>
   intro i hd _;have g:l[i]?=some p:=by have:=congrArg (·[0]?) hd;simpa using this
   have d:=(qLa.1 g).1;have o:gt l i=p:=by simp[gt,List.getD,g]
   have h:=j (i+1) (by rw[<- List.drop_drop,hd];rfl) d;have a:=c20 X hX f k p;have c:=c21 X hX p;rw[encF]at a;rw[encV]at a c;refine L_of ?_;rw[GY,rM d,qCt];simp only[encL_length,rng d,qCt,qIt,encL_x,encL_y,encL_z,o,dZ (show i<=9000000000000000000 by omega),h];rw[a,qOb];unfold zf JF;cases m:validP f with
   | false=>rfl
   | true =>
    rw[if_pos rfl,qBt,qCf,c,qOb];simp only[qLh,List.tail_cons,pv_p,toBool_bool,toInt_int];cases n:inM 1048576 p with
    | false=>rfl
    | true =>have b:=c22 X hX f m p (lu.up (tK.1 n));rw[encF,encV]at b;rw[qBt,qCf,b,qOb,if_pos rfl];simp only[qLh,pv_p,toBool_bool,beq_self_eq_true,qBt,qCf];rfl
theorem law5(f:Fen)(i:Oa f)(l:List V3)(h:∀ v∈l,v.ok):run tab X 5 [.p (encF f),.p (.list true kV3 (encL l))] []=some ([.p (.bool true)],[]):=
 run_of (hX _ rfl) (by
  have _:=h;have d:=c11 X hX hB hE hS;have e:=c15 X hX f i;rw[encF]at e ⊢;rw[e5,e,qOb];simp only[qLh,pv_p,toBool_bool];cases g:zI f with
  | false=>rw[qBf,qCt,d];rfl
  | true =>
   rw[qBt,qCf,encL_length];by_cases c:l.length<=20
   . obtain⟨b,_⟩:=uG g;have a:=c17 X hX f b;rw[vG]at a;rw[encF]at a;rw[show gtI ((l.length:Nat):Int) 20=false from decide_eq_false (by omega),qCf,a,qOb];exact l5 X hX hB hE hS f b l c l 0 qLy (Nat.zero_le _)
   . rw[show gtI ((l.length:Nat):Int) 20=true from decide_eq_true (by omega),qCt,d];rfl)
end
end
end Go.Skm.Fen
