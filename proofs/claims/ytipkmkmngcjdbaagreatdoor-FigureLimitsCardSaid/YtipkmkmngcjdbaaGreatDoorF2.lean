/-
  Distances, lists of points, the nearest of some points: what the small functions on lists return, for both; condition: lists that fit, points where that is said.
-/
import Derived.Test.YtipkmkmngcjdbaaGreatDoorF1
import Derived.Test.YtipkmkmngcjdbaaGreatDoorSkmG
namespace Go.Skm.Fig
open Go Go.Skm
theorem gd {k n:Nat} (h:k<n):(leI (0:Int) (k:Int)&&ltI (k:Int) ((n:Nat):Int))=true:=by
 simp only[Bool.and_eq_true,decide_eq_true_eq];omega
theorem wr1 {k:Nat} (h:k<1099511627776):IntKind.i64.wrap ((k:Int)+1)=((k+1:Nat):Int):=by
 rw[wrap_eq (by omega) (by omega)];omega
theorem condEq {α:Type} {x y:Int} {a b r:α} (h:x=y) (h2:b=r):cond (x != y) a b=r:=by rw[h,bne_self_eq_false];exact h2
theorem condNe {α:Type} {x y:Int} {a b r:α} (h:¬ x=y) (h2:a=r):cond (x != y) a b=r:=by
 have:(x != y)=true:=by simpa using h
 rw[this];exact h2
theorem condEqs {α:Type} {x y:Int} {a b r:α} (h:x=y) (h2:a=r):cond (x==y) a b=r:=by rw[h,beq_self_eq_true];exact h2
theorem condNes {α:Type} {x y:Int} {a b r:α} (h:¬ x=y) (h2:b=r):cond (x==y) a b=r:=by
 have:(x==y)=false:=by simpa using h
 rw[this];exact h2
theorem tn (k:Nat):((k:Nat):Int).toNat=k:=Int.toNat_natCast k
@[simp] theorem v3_eta (v:V3):(⟨v.x,v.y,v.z⟩:V3)=v:=rfl
def allFrom (p:Nat→Bool) (i n:Nat):Bool:=(List.range' i (n-i)).all p
theorem allFrom_nil {p:Nat→Bool} {i n:Nat} (h:n≤i):allFrom p i n=true:=by
 unfold allFrom;rw[show n-i=0 by omega];rfl
theorem allFrom_cons {p:Nat→Bool} {i n:Nat} (h:i<n):allFrom p i n=(p i&&allFrom p (i+1) n):=by
 unfold allFrom;rw[show n-i=(n-(i+1))+1 by omega,List.range'_succ];rfl
theorem allFrom_iff {p:Nat→Bool} {i n:Nat}:allFrom p i n=true↔∀ j,i≤j→j<n→p j=true:=by
 unfold allFrom
 simp only[List.all_eq_true,List.mem_range'_1]
 constructor
 · intro h j h1 h2;exact h j ⟨h1,by omega⟩
 · intro h j hj;exact h j hj.1 (by omega)
def at_ (l:List V3) (i:Nat):V3:=l.getD i default
def pnt (v:V3):Bool:=inM 1048576 v
theorem pnt_iff {v:V3}:pnt v=true↔(-1048576≤v.x∧v.x≤1048576)∧(-1048576≤v.y∧v.y≤1048576)∧(-1048576≤v.z∧v.z≤1048576):=inM_iff
def allP (l:List V3):Bool:=allFrom (fun j=>pnt (at_ l j)) 0 l.length
theorem sq_nn (a:Int):0≤a*a:=by
 rcases Int.le_total 0 a with h | h
 · exact Int.mul_nonneg h h
 · have:=Int.mul_nonneg (show 0≤-a by omega) (show 0≤-a by omega)
   rwa[Int.neg_mul_neg]at this
theorem pnt_valid {v:V3} (h:pnt v=true):inM 16777216 v=true:=by
 rw[pnt_iff]at h;rw[inM_iff];omega
theorem cmp_or (a b:V3):cmpV a b=-1∨cmpV a b=0∨cmpV a b=1:=by
 unfold cmpV cmpI;repeat' split
 all_goals simp
section
variable (X:Ext) (hX:Mine X)
include hX
theorem u63 (v:V3):run tab X 47 [.p (eV v)] []=some ([.p (.bool (inM 16777216 v))],[]):=c47 X hX v
theorem u45 (v:V3):run tab X 31 [.p (eV v)] []=some ([.p (.bool (pnt v))],[]):=c31 X hX v
theorem u46 (v:V3):run tab X 70 [.p (eV v)] []=some ([.p (.bool (pnt v))],[]):=c70 X hX v
theorem u35 (a b:V3):run tab X 34 [.p (eV a),.p (eV b)] []=some ([.p (.int .i64 (cmpV a b))],[]):=c34 X hX a b
theorem u38 (a b:V3):run tab X 71 [.p (eV a),.p (eV b)] []=some ([.p (.int .i64 (cmpV a b))],[]):=c71 X hX a b
theorem c51 (v:V3) (h:pnt v=true):run tab X 51 [.p (eV v)] []=some ([.p (eV ⟨-v.x,-v.y,-v.z⟩)],[]) :=
 run_of (hX _ rfl) (by
  rw[pnt_iff]at h
  rw[e51,wrap_eq (x:=0-v.x) (by omega) (by omega),wrap_eq (x:=0-v.y) (by omega) (by omega),wrap_eq (x:=0-v.z) (by omega) (by omega)]
  simp)
theorem u59 (a b:V3) (ha:Bd 1099511627776 a) (hb:Bd 1099511627776 b):run tab X 26 [.p (eV a),.p (eV b)] []=some ([.p (eV ⟨a.x+b.x,a.y+b.y,a.z+b.z⟩)],[]):=c26 X hX a b ha hb
theorem c27 (a b:V3) (ha:pnt a=true) (hb:pnt b=true):run tab X 27 [.p (eV a),.p (eV b)] []=some ([.p (eV ⟨a.x-b.x,a.y-b.y,a.z-b.z⟩)],[]) :=
 run_of (hX _ rfl) (by
  rw[e27,c51 X hX b hb]
  simp only[Option.bind_some,List.headD_cons,pv_p,cell_agg,List.getD_cons_zero,List.getD_cons_succ,toInt_int]
  rw[pnt_iff]at ha hb
  have:=u59 X hX a ⟨-b.x,-b.y,-b.z⟩ ⟨by omega,by omega,by omega⟩ ⟨by simp only;omega,by simp only;omega,by simp only;omega⟩
  simp only at this
  rw[this]
  simp only[Option.bind_some,List.headD_cons,pv_p,cell_agg,List.getD_cons_zero,List.getD_cons_succ,toInt_int,← Int.sub_eq_add_neg])
theorem l32 (l:List V3) (hl:l.length≤2147483648):∀ m i,i+m=l.length→L tab (run tab X) 37 [] [.lp [1,0,1,0]] (S37_1010 (encL l) (i:Int))=some ([.p (.bool (allFrom (fun j=>pnt (at_ l j)) i l.length))],[]):=by
 intro m
 induction m with
 | zero =>
  intro i hi
  refine L_of ?_
  rw[e37_1010,allFrom_nil (by omega)];exact condNP (by rw[encL_length];omega) rfl
 | succ m ih =>
  intro i hi
  have hlt:i<l.length:=by omega
  refine L_of ?_
  rw[e37_1010]
  refine condP (by rw[encL_length];omega) (condT (by rw[encL_length];exact gd hlt) ?_)
  simp only[tn,encL_x,encL_y,encL_z,u46 X hX,Option.bind_some,List.headD_cons,pv_p,toBool_bool,wr1 (show i<1099511627776 by omega)]
  rw[allFrom_cons hlt,ih (i+1) (by omega)]
  show cond (!pnt (at_ l i)) _ _=_
  cases pnt (at_ l i)<;>rfl
theorem c37 (l:List V3) (hl:l.length≤2147483648):run tab X 37 [.p (.list true kV (encL l))] []=some ([.p (.bool (allP l))],[]) :=
 run_of (hX _ rfl) (by rw[e37];exact l32 X hX l hl l.length 0 (by omega))
end
end Go.Skm.Fig
