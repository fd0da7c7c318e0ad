/-
  Distances, lists of points, the nearest of some points: what the small functions on lists return, for both; condition: lists that fit, points where that is said.
-/
import Derived.Test.YtipkmkmngcjdbaaGreatDoorF2
import Derived.Test.YtipkmkmngcjdbaaGreatDoorF1p
namespace Go.Skm.Fig
open Go Go.Skm
section
variable (X:Ext) (hX:Mine X)
include hX
theorem u38 (a b:V3):run tab X 71 [.p (eV a),.p (eV b)] []=some ([.p (.int .i64 (cmpV a b))],[]):=c71 X hX a b
theorem u59 (a b:V3) (ha:Bd 1099511627776 a) (hb:Bd 1099511627776 b):run tab X 26 [.p (eV a),.p (eV b)] []=some ([.p (eV ⟨a.x+b.x,a.y+b.y,a.z+b.z⟩)],[]):=c26 X hX a b ha hb
theorem c27 (a b:V3) (ha:pnt a=true) (hb:pnt b=true):run tab X 27 [.p (eV a),.p (eV b)] []=some ([.p (eV ⟨a.x-b.x,a.y-b.y,a.z-b.z⟩)],[]) :=
 run_of (hX _ rfl) (by
  rw[e27,c51 X hX b hb]
  simp only[Option.bind_some,List.headD_cons,pv_p,cell_agg,List.getD_cons_zero,List.getD_cons_succ,toInt_int]
  rw[pnt_iff]at ha hb
  have:=u59 X hX a ⟨-b.x,-b.y,-b.z⟩ ⟨by omega,by omega,by omega⟩ ⟨by simp only;omega,by simp only;omega,by simp only;omega⟩
  simp only at this
  rw[this]
  simp only[Option.bind_some,List.headD_cons,pv_p,cell_agg,List.getD_cons_zero,List.getD_cons_succ,toInt_int,← Int.sub_eq_add_neg])
end
end Go.Skm.Fig

