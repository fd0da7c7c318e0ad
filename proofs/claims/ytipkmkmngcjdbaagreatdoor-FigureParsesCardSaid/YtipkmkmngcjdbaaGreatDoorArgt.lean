/-
  Arguments that are texts, numbers and vectors; condition: a value of Go.
-/
import Derived.Test.YtipkmkmngcjdbaaGreatDoorF8
import Derived.Test.YtipkmkmngcjdbaaGreatDoorSkmE
import Derived.Test.YtipkmkmngcjdbaaGreatDoorSkmH
namespace Go.Skm.Fig
open Go Go.Skm
theorem ba_of (s:ByteArray):ba s.data.toList=s:=by
 cases s with
 | mk d=>rfl
theorem arg_ba {P:Program} {t:TypeId} (ht:shapeP P 8 t=(false,[.str])) {x:PV} (h:shapeOk (shapeP P 8 t).1 (shapeP P 8 t).2 x=true):∃ g:List UInt8,x=.str (ba g):=by
 obtain⟨s,rfl⟩:=arg_str ht h
 exact⟨s.data.toList,by rw[ba_of]⟩
theorem arg_num {P:Program} {t:TypeId} (ht:shapeP P 8 t=(false,[.int .i64])) {x:PV} (h:shapeOk (shapeP P 8 t).1 (shapeP P 8 t).2 x=true) (hw:x.wf):∃ n,x=.int .i64 n:=by
 obtain⟨n,rfl,_⟩:=arg_int ht h hw
 exact⟨n,rfl⟩
end Go.Skm.Fig
