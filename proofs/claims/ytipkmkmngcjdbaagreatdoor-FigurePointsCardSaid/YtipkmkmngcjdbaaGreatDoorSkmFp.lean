/-
  A machine that runs this program's functions on pure values, and the proof that what it returns is true of the program; no condition beside the hypotheses of each.
-/
import Derived.Test.YtipkmkmngcjdbaaGreatDoorSkmF
namespace Go.Skm
namespace V3
end V3
theorem encV_mk (a b c:Int):PV.agg [.int .i64 a,.int .i64 b,.int .i64 c]=encV ⟨a,b,c⟩:=rfl
theorem encL_cons (v:V3) (l:List V3):encL (v::l)=encV v::encL l:=rfl
theorem encL_drop (l:List V3) (n:Nat):(encL l).drop n=encL (l.drop n):=by simp[encL]
theorem encL_take (l:List V3) (n:Nat):(encL l).take n=encL (l.take n):=by simp[encL]
section
variable {P:Program} {w:World} {M:Nat→Prop}
end
end Go.Skm

