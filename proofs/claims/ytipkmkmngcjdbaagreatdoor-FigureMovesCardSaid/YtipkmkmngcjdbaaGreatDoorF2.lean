/-
  adG, lists of points, the nearest of some points: what the small functions on lists return, for both; condition: lists that fit, points where that is said.
-/
import Derived.Test.YtipkmkmngcjdbaaGreatDoorF1
import Derived.Test.YtipkmkmngcjdbaaGreatDoorSkmG
namespace Go.Skm.Fig
open Go Go.Skm
theorem gd {k n:Nat} (h:k<n):(leI (0:Int) (k:Int)&&jo (k:Int) ((n:Nat):Int))=true:=by
 simp only[Bool.and_eq_true,decide_eq_true_eq];omega
theorem X6 {k:Nat} (h:k<1099511627776):IntKind.i64.wrap ((k:Int)+1)=((k+1:Nat):Int):=by
 rw[wrap_eq (by omega) (by omega)];omega
theorem oI {α:Type} {x y:Int} {a b r:α} (h:x=y) (h2:b=r):cond (x != y) a b=r:=by rw[h,bne_self_eq_false];exact h2
theorem acw {α:Type} {x y:Int} {a b r:α} (h:¬ x=y) (h2:a=r):cond (x != y) a b=r:=by
 have:(x != y)=true:=by simpa using h
 rw[this];exact h2
theorem ou {α:Type} {x y:Int} {a b r:α} (h:x=y) (h2:a=r):cond (x==y) a b=r:=by rw[h,beq_self_eq_true];exact h2
theorem pU {α:Type} {x y:Int} {a b r:α} (h:¬ x=y) (h2:b=r):cond (x==y) a b=r:=by
 have:(x==y)=false:=by simpa using h
 rw[this];exact h2
theorem tn (k:Nat):((k:Nat):Int).toNat=k:=Int.toNat_natCast k
@[simp] theorem ai3 (v:V3):(⟨v.x,v.y,v.z⟩:V3)=v:=rfl
def oz (p:Nat→Bool) (i n:Nat):Bool:=(List.range' i (n-i)).all p
theorem Ap {p:Nat→Bool} {i n:Nat} (h:n≤i):oz p i n=true:=by
 unfold oz;rw[show n-i=0 by omega];rfl
theorem tX {p:Nat→Bool} {i n:Nat} (h:i<n):oz p i n=(p i&&oz p (i+1) n):=by
 unfold oz;rw[show n-i=(n-(i+1))+1 by omega,List.range'_succ];rfl
theorem Ht {p:Nat→Bool} {i n:Nat}:oz p i n=true↔∀ j,i≤j→j<n→p j=true:=by
 unfold oz
 simp only[List.all_eq_true,List.mem_range'_1]
 constructor
 · intro h j h1 h2;exact h j ⟨h1,by omega⟩
 · intro h j hj;exact h j hj.1 (by omega)
def at_ (l:List V3) (i:Nat):V3:=l.getD i default
def vU (v:V3):Bool:=oM 1048576 v
theorem ED {v:V3}:vU v=true↔(-1048576≤v.x∧v.x≤1048576)∧(-1048576≤v.y∧v.y≤1048576)∧(-1048576≤v.z∧v.z≤1048576):=tV
def zU (l:List V3):Bool:=oz (fun j=>vU (at_ l j)) 0 l.length
theorem Vq (a:Int):0≤a*a:=by
 rcases Int.le_total 0 a with h | h
 · exact Int.mul_nonneg h h
 · have:=Int.mul_nonneg (show 0≤-a by omega) (show 0≤-a by omega)
   rwa[Int.neg_mul_neg]at this
theorem ND {v:V3} (h:vU v=true):oM 16777216 v=true:=by
 rw[ED]at h;rw[tV];omega
theorem OL (a b:V3):mF a b=-1∨mF a b=0∨mF a b=1:=by
 unfold mF Ag;repeat' split
 all_goals simp
section
variable (X:Ext) (hX:Mine X)
include hX
theorem u63 (v:V3):run tab X 47 [.p (eV v)] []=some ([.p (.bool (oM 16777216 v))],[]):=c47 X hX v
theorem u45 (v:V3):run tab X 31 [.p (eV v)] []=some ([.p (.bool (vU v))],[]):=c31 X hX v
theorem u46 (v:V3):run tab X 70 [.p (eV v)] []=some ([.p (.bool (vU v))],[]):=c70 X hX v
theorem u35 (a b:V3):run tab X 34 [.p (eV a),.p (eV b)] []=some ([.p (.int .i64 (mF a b))],[]):=c34 X hX a b
theorem l32 (l:List V3) (hl:l.length≤2147483648):∀ m i,i+m=l.length→L tab (run tab X) 37 [] [.lp [1,0,1,0]] (Ep (bJ l) (i:Int))=some ([.p (.bool (oz (fun j=>vU (at_ l j)) i l.length))],[]):=by
 intro m
 induction m with
 | zero =>
  intro i hi
  refine dQ ?_
  rw[Qv,Ap (by omega)];exact bM (by rw[aQ];omega) rfl
 | succ m ih =>
  intro i hi
  have hlt:i<l.length:=by omega
  refine dQ ?_
  rw[Qv]
  refine bT (by rw[aQ];omega) (jV (by rw[aQ];exact gd hlt) ?_)
  simp only[tn,pV,pW,pX,u46 X hX,Option.bind_some,List.headD_cons,iP,bF,X6 (show i<1099511627776 by omega)]
  rw[tX hlt,ih (i+1) (by omega)]
  show cond (!vU (at_ l i)) _ _=_
  cases vU (at_ l i)<;>rfl
theorem c37 (l:List V3) (hl:l.length≤2147483648):run tab X 37 [.p (.list true kV (bJ l))] []=some ([.p (.bool (zU l))],[]) :=
 bK (hX _ rfl) (by rw[e37];exact l32 X hX l hl l.length 0 (by omega))
end
end Go.Skm.Fig
