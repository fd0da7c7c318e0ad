/-
  Arguments that are texts, numbers and vectors; condition: a value of Go.
-/
import Derived.Test.YtipkmkmngcjdbaaGreatDoorF8
import Derived.Test.YtipkmkmngcjdbaaGreatDoorSkmE
import Derived.Test.YtipkmkmngcjdbaaGreatDoorSkmH
namespace Go.Skm.Fig
open Go Go.Skm
theorem arg_num {P:Program} {t:TypeId} (ht:shapeP P 8 t=(false,[.int .i64])) {x:PV} (h:shapeOk (shapeP P 8 t).1 (shapeP P 8 t).2 x=true) (hw:x.wf):∃ n,x=.int .i64 n:=by
 obtain⟨n,rfl,_⟩:=arg_int ht h hw
 exact⟨n,rfl⟩
end Go.Skm.Fig
