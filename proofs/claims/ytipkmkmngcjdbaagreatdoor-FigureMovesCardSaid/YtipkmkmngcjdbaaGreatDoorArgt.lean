/-
  Arguments that are texts, numbers and vectors; condition: a value of Go.
-/
import Derived.Test.YtipkmkmngcjdbaaGreatDoorArgs
import Derived.Test.YtipkmkmngcjdbaaGreatDoorSkmH
namespace Go.Skm.Fig
open Go Go.Skm
theorem aah {P:Program} {t:TypeId} (ht:aX P 8 t=(true,kV)) {x:PV} (h:aA (aX P 8 t).1 (aX P 8 t).2 x=true):∃ v:V3,x=fB v:=by
 rw[ht]at h
 cases x<;>simp only[aA,Bool.false_eq_true]at h
 rename_i cs
 match cs,h with
 | [a,b,c],h =>
  simp only[bH,Bool.and_true,Bool.and_eq_true]at h
  obtain⟨ha,hb,hc⟩:=h
  obtain⟨x,rfl⟩:=zW ha
  obtain⟨y,rfl⟩:=zW hb
  obtain⟨z,rfl⟩:=zW hc
  exact⟨⟨x,y,z⟩,rfl⟩
 | [],h=>simp[bH]at h
 | [_],h=>simp[bH]at h
 | [_,_],h=>simp[bH]at h
 | _::_::_::_::_,h=>simp[bH]at h
end Go.Skm.Fig
