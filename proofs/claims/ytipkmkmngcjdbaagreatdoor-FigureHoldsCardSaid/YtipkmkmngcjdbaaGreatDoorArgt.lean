/-
  Arguments that are texts, numbers and vectors; condition: a value of Go.
-/
import Derived.Test.YtipkmkmngcjdbaaGreatDoorArgs
import Derived.Test.YtipkmkmngcjdbaaGreatDoorSkmH
namespace Go.Skm.Fig
open Go Go.Skm
theorem ba_of (s:ByteArray):ba s.data.toList=s:=by
 cases s with
 | mk d=>rfl
theorem arg_ba {P:Program} {t:TypeId} (ht:shapeP P 8 t=(false,[.str])) {x:PV} (h:shapeOk (shapeP P 8 t).1 (shapeP P 8 t).2 x=true):∃ g:List UInt8,x=.str (ba g):=by
 obtain⟨s,rfl⟩:=arg_str ht h
 exact⟨s.data.toList,by rw[ba_of]⟩
theorem arg_vec {P:Program} {t:TypeId} (ht:shapeP P 8 t=(true,kV)) {x:PV} (h:shapeOk (shapeP P 8 t).1 (shapeP P 8 t).2 x=true):∃ v:V3,x=encV v:=by
 rw[ht]at h
 cases x<;>simp only[shapeOk,Bool.false_eq_true]at h
 rename_i cs
 match cs,h with
 | [a,b,c],h =>
  simp only[kindsOk,Bool.and_true,Bool.and_eq_true]at h
  obtain⟨ha,hb,hc⟩:=h
  obtain⟨x,rfl⟩:=int_of ha
  obtain⟨y,rfl⟩:=int_of hb
  obtain⟨z,rfl⟩:=int_of hc
  exact⟨⟨x,y,z⟩,rfl⟩
 | [],h=>simp[kindsOk]at h
 | [_],h=>simp[kindsOk]at h
 | [_,_],h=>simp[kindsOk]at h
 | _::_::_::_::_,h=>simp[kindsOk]at h
end Go.Skm.Fig
