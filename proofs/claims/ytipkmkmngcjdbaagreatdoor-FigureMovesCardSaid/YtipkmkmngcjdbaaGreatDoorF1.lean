/-
  What the small functions of the ail seat return: comparisons, ranges; condition: parts in range where that is said.
-/
import Derived.Test.YtipkmkmngcjdbaaGreatDoorEqs
import Derived.Test.YtipkmkmngcjdbaaGreatDoorEqt
import Derived.Test.YtipkmkmngcjdbaaGreatDoorSkmF
import Derived.Test.YtipkmkmngcjdbaaGreatDoorSkmG
namespace Go.Skm.Fig
open Go Go.Skm
def ad6 (f:Nat):Bool:=f==32||(f==43||(f==48||(f==63||(f==75||(f==76||(f==79||(f==81||f==82)))))))
def Mine (X:Ext):Prop:=∀ f,ad6 f=false→X f=none
theorem acj {a b m n:Int} (ha:-m≤a∧a≤m) (hb:-n≤b∧b≤n):-(m*n)≤a*b∧a*b≤m*n:=by
 have h1:a.natAbs≤m.toNat:=by omega
 have h2:b.natAbs≤n.toNat:=by omega
 have h3:=Nat.mul_le_mul h1 h2
 rw[← Int.natAbs_mul]at h3
 have h4:((m.toNat*n.toNat:Nat):Int)=m*n:=by
  rw[Int.natCast_mul,Int.toNat_of_nonneg (by omega),Int.toNat_of_nonneg (by omega)]
 omega
def Ag (x y:Int):Int:=if x<y then -1 else if x > y then 1 else 0
def mF (a b:V3):Int:=if a.x<b.x then -1 else if a.x > b.x then 1 else if a.y<b.y then -1 else if a.y > b.y then 1 else Ag a.z b.z
def oM (m:Int) (v:V3):Bool:=decide (-m≤v.x∧v.x≤m)&&(decide (-m≤v.y∧v.y≤m)&&decide (-m≤v.z∧v.z≤m))
abbrev eV (v:V3):PV:=.agg [.int .i64 v.x,.int .i64 v.y,.int .i64 v.z]
theorem tV {m:Int} {v:V3}:oM m v=true↔(-m≤v.x∧v.x≤m)∧(-m≤v.y∧v.y≤m)∧(-m≤v.z∧v.z≤m):=by
 simp[oM]
section
variable (X:Ext) (hX:Mine X)
include hX
theorem aiR (x:Int):run tab X 120 [.p (.int .i64 x)] []=some ([.p (.bool false)],[]) :=
 bK (hX _ rfl) (by rw[e120];simp)
theorem c99 (x y:Int):run tab X 99 [.p (.int .i64 x),.p (.int .i64 y)] []=some ([.p (.int .i64 (Ag x y))],[]) :=
 bK (hX _ rfl) (by
  rw[e99]
  simp only[aiR X hX,Option.bind_some,List.headD_cons,iP,bF,cond_false,l7,Ag]
  split<;>(try split)<;>rfl)
theorem c87 (v:V3) (i:Int):run tab X 87 [.p (fB v),.p (.int .i64 i)] []=some ([.p (.int .i64 (if i=0 then v.x else if i=1 then v.y else v.z))],[]) :=
 bK (hX _ rfl) (by
  rw[fB,e87]
  simp only[Hf]
  split<;>(try split)<;>rfl)
theorem c65 (v:V3):run tab X 65 [.p (fB v)] []=some ([.p (fB v)],[]):=bK (hX _ rfl) (by rw[fB,e65])
theorem c50 (v:V3) (m:Int) (hm:0≤m) (hm':m≤9223372036854775807):run tab X 50 [.p (fB v),.p (.int .i64 m)] []=some ([.p (.bool (oM m v))],[]):=by
 have hn:IntKind.i64.wrap (0-m)=-m:=by rw[wrap_eq (by omega) (by omega)];omega
 refine bK (hX _ rfl) ?_
 rw[fB,e50]
 have e0:∀ i,run tab X 87 [.p (.agg [.int .i64 v.x,.int .i64 v.y,.int .i64 v.z]),.p (.int .i64 i)] []=some ([.p (.int .i64 (if i=0 then v.x else if i=1 then v.y else v.z))],[]):=fun i=>c87 X hX v i
 refine dQ ?_
 rw[Et]
 simp only[e0,hn,Option.bind_some,List.headD_cons,iP,toInt_int,l7]
 rw[if_pos (by decide)]
 simp only[if_true]
 by_cases h1:v.x > m
 · rw[if_pos h1];simp[oM];omega
 rw[if_neg h1]
 by_cases h2:v.x < -m
 · rw[if_pos h2];simp[oM];omega
 rw[if_neg h2]
 refine dQ ?_
 rw[Et]
 simp only[e0,hn,Option.bind_some,List.headD_cons,iP,toInt_int,l7]
 have w1:IntKind.i64.wrap (0+1)=1:=by decide
 rw[w1,if_pos (by decide)]
 simp only[show ¬ ((1:Int)=0) by decide,if_false,if_true]
 by_cases h3:v.y > m
 · rw[if_pos h3];simp[oM];omega
 rw[if_neg h3]
 by_cases h4:v.y < -m
 · rw[if_pos h4];simp[oM];omega
 rw[if_neg h4]
 refine dQ ?_
 rw[Et]
 simp only[e0,hn,Option.bind_some,List.headD_cons,iP,toInt_int,l7]
 have w2:IntKind.i64.wrap (1+1)=2:=by decide
 rw[w2,if_pos (by decide)]
 simp only[show ¬ ((2:Int)=0) by decide,show ¬ ((2:Int)=1) by decide,if_false]
 by_cases h5:v.z > m
 · rw[if_pos h5];simp[oM];omega
 rw[if_neg h5]
 by_cases h6:v.z < -m
 · rw[if_pos h6];simp[oM];omega
 rw[if_neg h6]
 refine dQ ?_
 rw[Et]
 have w3:IntKind.i64.wrap (2+1)=3:=by decide
 rw[w3]
 have:oM m v=true:=by rw[tV];omega
 simp only[l7]
 first
 | (rw[if_neg (show ¬ ((3:Int)<3) by decide),this])
 | (rw[if_neg (show ¬ ((3:Int)<((0+1+1+1:Nat):Int)) by decide),this])
theorem c70 (v:V3):run tab X 70 [.p (fB v)] []=some ([.p (.bool (oM 1048576 v))],[]) :=
 bK (hX _ rfl) (by
  rw[fB,e70]
  have:=c50 X hX v 1048576 (by decide) (by decide)
  rw[fB]at this
  rw[this];rfl)
theorem c61 (v:V3) (m:Int) (hm:0≤m) (hm':m≤9223372036854775807):run tab X 61 [.p (.int .i64 m),.p (.list false [.int .i64] [.int .i64 v.x,.int .i64 v.y,.int .i64 v.z])] []=some ([.p (.bool (oM m v))],[]):=by
 have hn:IntKind.i64.wrap (0-m)=-m:=by rw[wrap_eq (by omega) (by omega)];omega
 have w1:IntKind.i64.wrap (0+1)=1:=by decide
 have w2:IntKind.i64.wrap (1+1)=2:=by decide
 have w3:IntKind.i64.wrap (2+1)=3:=by decide
 refine bK (hX _ rfl) ?_
 rw[e61]
 refine dQ ?_
 rw[Eu]
 simp only[hn,w1,l7,wo,List.length_cons,List.length_nil]
 simp only[show ((0:Int)<((0+1+1+1:Nat):Int)) by decide,Int.le_refl,if_true,Int.toNat_zero,List.getD_cons_zero,xR,toInt_int]
 by_cases h1:v.x < -m
 · rw[if_pos h1];simp[oM];omega
 rw[if_neg h1]
 by_cases h2:v.x > m
 · rw[if_pos h2];simp[oM];omega
 rw[if_neg h2]
 refine dQ ?_
 rw[Eu]
 simp only[hn,w2,l7,wo,List.length_cons,List.length_nil]
 simp only[show ((1:Int)<((0+1+1+1:Nat):Int)) by decide,show (0:Int)≤1 by decide,if_true,show (1:Int).toNat=1 from rfl,List.getD_cons_succ,List.getD_cons_zero,xR,toInt_int]
 by_cases h3:v.y < -m
 · rw[if_pos h3];simp[oM];omega
 rw[if_neg h3]
 by_cases h4:v.y > m
 · rw[if_pos h4];simp[oM];omega
 rw[if_neg h4]
 refine dQ ?_
 rw[Eu]
 simp only[hn,w3,l7,wo,List.length_cons,List.length_nil]
 simp only[show ((2:Int)<((0+1+1+1:Nat):Int)) by decide,show (0:Int)≤2 by decide,if_true,show (2:Int).toNat=2 from rfl,List.getD_cons_succ,List.getD_cons_zero,xR,toInt_int]
 by_cases h5:v.z < -m
 · rw[if_pos h5];simp[oM];omega
 rw[if_neg h5]
 by_cases h6:v.z > m
 · rw[if_pos h6];simp[oM];omega
 rw[if_neg h6]
 refine dQ ?_
 rw[Eu]
 have:oM m v=true:=by rw[tV];omega
 simp only[l7]
 first
 | (rw[if_neg (show ¬ ((3:Int)<3) by decide),this])
 | (rw[if_neg (show ¬ ((3:Int)<((0+1+1+1:Nat):Int)) by decide),this])
theorem c31 (v:V3):run tab X 31 [.p (fB v)] []=some ([.p (.bool (oM 1048576 v))],[]) :=
 bK (hX _ rfl) (by rw[fB,e31,c61 X hX v _ (by decide) (by decide)];rfl)
theorem c47 (v:V3):run tab X 47 [.p (fB v)] []=some ([.p (.bool (oM 16777216 v))],[]) :=
 bK (hX _ rfl) (by rw[fB,e47,c61 X hX v _ (by decide) (by decide)];rfl)
theorem c34 (a b:V3):run tab X 34 [.p (fB a),.p (fB b)] []=some ([.p (.int .i64 (mF a b))],[]):=by
 have w1:IntKind.i64.wrap (0+1)=1:=by decide
 have w2:IntKind.i64.wrap (1+1)=2:=by decide
 have w3:IntKind.i64.wrap (2+1)=3:=by decide
 have h53:∀ v:V3,run tab X 65 [.p (.agg [.int .i64 v.x,.int .i64 v.y,.int .i64 v.z])] []=some ([.p (.agg [.int .i64 v.x,.int .i64 v.y,.int .i64 v.z])],[]):=fun v=>c65 X hX v
 refine bK (hX _ rfl) ?_
 rw[fB,fB,e34]
 simp only[h53,Option.bind_some,List.headD_cons,iP,gu,List.getD_cons_zero,List.getD_cons_succ,toInt_int]
 have key:run tab X 66 [.p (.list false [.int .i64] [.int .i64 a.x,.int .i64 a.y,.int .i64 a.z]),.p (.list false [.int .i64] [.int .i64 b.x,.int .i64 b.y,.int .i64 b.z])] []=some ([.p (.int .i64 (mF a b))],[]):=by
  refine bK (hX _ rfl) ?_
  rw[e66]
  refine dQ ?_
  rw[Ew]
  simp only[c99 X hX,w1,l7,wo,CW,List.length_cons,List.length_nil,Option.bind_some,List.headD_cons,iP,toInt_int]
  simp only[show ((0:Int)<((0+1+1+1:Nat):Int)) by decide,show ¬ ((0:Int) ≥ ((0+1+1+1:Nat):Int)) by decide,Int.le_refl,if_true,if_false,Int.toNat_zero,List.getD_cons_zero,xR,toInt_int]
  unfold mF
  by_cases h1:a.x<b.x
  · simp[Ag,h1]
  by_cases h2:a.x > b.x
  · simp[Ag,h1,h2]
  rw[if_neg h1,if_neg h2]
  have e1:Ag a.x b.x=0:=by simp[Ag,h1,h2]
  rw[e1,if_pos rfl]
  refine dQ ?_
  rw[Ew]
  simp only[c99 X hX,w2,l7,wo,CW,List.length_cons,List.length_nil,Option.bind_some,List.headD_cons,iP,toInt_int]
  simp only[show ((1:Int)<((0+1+1+1:Nat):Int)) by decide,show ¬ ((1:Int) ≥ ((0+1+1+1:Nat):Int)) by decide,show (0:Int)≤1 by decide,if_true,if_false,show (1:Int).toNat=1 from rfl,List.getD_cons_succ,List.getD_cons_zero,xR,toInt_int]
  by_cases h3:a.y<b.y
  · simp[Ag,h3]
  by_cases h4:a.y > b.y
  · simp[Ag,h3,h4]
  rw[if_neg h3,if_neg h4]
  have e2:Ag a.y b.y=0:=by simp[Ag,h3,h4]
  rw[e2,if_pos rfl]
  refine dQ ?_
  rw[Ew]
  simp only[c99 X hX,w3,l7,wo,CW,List.length_cons,List.length_nil,Option.bind_some,List.headD_cons,iP,toInt_int]
  simp only[show ((2:Int)<((0+1+1+1:Nat):Int)) by decide,show ¬ ((2:Int) ≥ ((0+1+1+1:Nat):Int)) by decide,show (0:Int)≤2 by decide,if_true,if_false,show (2:Int).toNat=2 from rfl,List.getD_cons_succ,List.getD_cons_zero,xR,toInt_int]
  by_cases h5:Ag a.z b.z=0
  · rw[if_pos h5,h5]
    refine dQ ?_
    rw[Ew]
    simp only[l7,List.length_cons,List.length_nil]
    rw[if_neg (by decide),if_neg (by decide)]
  · rw[if_neg h5]
 rw[key];rfl
def Bd (m:Int) (v:V3):Prop:=(-m≤v.x∧v.x≤m)∧(-m≤v.y∧v.y≤m)∧(-m≤v.z∧v.z≤m)
theorem c26 (a b:V3) (ha:Bd 1099511627776 a) (hb:Bd 1099511627776 b):run tab X 26 [.p (fB a),.p (fB b)] []=some ([.p (fB ⟨a.x+b.x,a.y+b.y,a.z+b.z⟩)],[]) :=
 bK (hX _ rfl) (by
  obtain⟨a1,a2,a3⟩:=ha
  obtain⟨b1,b2,b3⟩:=hb
  rw[fB,fB,e26,wrap_eq (by omega) (by omega),wrap_eq (by omega) (by omega),wrap_eq (by omega) (by omega)];rfl)
end
end Go.Skm.Fig
