/-
  What the small functions of the Scatter seat return: comparisons, ranges; condition: parts in range where that is said.
-/
import Derived.Test.YtipkmkmngcjdbaaGreatDoorF1
import Derived.Test.YtipkmkmngcjdbaaGreatDoorEqtp
namespace Go.Skm.Fig
open Go Go.Skm
section
variable (X:Ext) (hX:Mine X)
include hX
theorem c71 (a b:V3):run tab X 71 [.p (encV a),.p (encV b)] []=some ([.p (.int .i64 (cmpV a b))],[]):=by
 have w1:IntKind.i64.wrap (0+1)=1:=by decide
 have w2:IntKind.i64.wrap (1+1)=2:=by decide
 have w3:IntKind.i64.wrap (2+1)=3:=by decide
 have e0:∀ (v:V3) i,run tab X 87 [.p (.agg [.int .i64 v.x,.int .i64 v.y,.int .i64 v.z]),.p (.int .i64 i)] []=some ([.p (.int .i64 (if i=0 then v.x else if i=1 then v.y else v.z))],[]):=fun v i=>c87 X hX v i
 refine run_of (hX _ rfl) ?_
 rw[encV,encV,e71]
 unfold cmpV
 refine L_of ?_
 rw[e71_1010]
 simp only[e0,w1,Option.bind_some,List.headD_cons,pv_p,toInt_int,condD]
 rw[if_pos (by decide)]
 simp only[if_true]
 by_cases h1:a.x<b.x
 · rw[if_pos h1,if_pos h1]
 by_cases h2:a.x > b.x
 · rw[if_neg h1,if_neg h1,if_pos h2,if_pos h2]
 rw[if_neg h1,if_neg h1,if_neg h2,if_neg h2]
 refine L_of ?_
 rw[e71_1010]
 simp only[e0,w2,Option.bind_some,List.headD_cons,pv_p,toInt_int,condD]
 rw[if_pos (by decide)]
 simp only[show ¬ ((1:Int)=0) by decide,if_false,if_true]
 by_cases h3:a.y<b.y
 · rw[if_pos h3,if_pos h3]
 by_cases h4:a.y > b.y
 · rw[if_neg h3,if_neg h3,if_pos h4,if_pos h4]
 rw[if_neg h3,if_neg h3,if_neg h4,if_neg h4]
 refine L_of ?_
 rw[e71_1010]
 simp only[e0,w3,Option.bind_some,List.headD_cons,pv_p,toInt_int,condD]
 rw[if_pos (by decide)]
 simp only[show ¬ ((2:Int)=0) by decide,show ¬ ((2:Int)=1) by decide,if_false]
 unfold cmpI
 by_cases h5:a.z<b.z
 · rw[if_pos h5,if_pos h5]
 by_cases h6:a.z > b.z
 · rw[if_neg h5,if_neg h5,if_pos h6,if_pos h6]
 rw[if_neg h5,if_neg h5,if_neg h6,if_neg h6]
 refine L_of ?_
 rw[e71_1010]
 simp only[condD]
 rw[if_neg (by decide)]
def Bd (m:Int) (v:V3):Prop:=(-m≤v.x∧v.x≤m)∧(-m≤v.y∧v.y≤m)∧(-m≤v.z∧v.z≤m)
theorem c26 (a b:V3) (ha:Bd 1099511627776 a) (hb:Bd 1099511627776 b):run tab X 26 [.p (encV a),.p (encV b)] []=some ([.p (encV ⟨a.x+b.x,a.y+b.y,a.z+b.z⟩)],[]) :=
 run_of (hX _ rfl) (by
  obtain⟨a1,a2,a3⟩:=ha
  obtain⟨b1,b2,b3⟩:=hb
  rw[encV,encV,e26,wrap_eq (by omega) (by omega),wrap_eq (by omega) (by omega),wrap_eq (by omega) (by omega)];rfl)
end
end Go.Skm.Fig

