/-
  The laws Points, Texts and Valid; condition: the library's answers, arguments that fit.
-/
import Derived.Test.YtipkmkmngcjdbaaGreatDoorF20
namespace Go.Skm.Fig
open Go Go.Skm
section
variable (X:Ext) (hX:Mine X) (hT:Texts X)
include hX
theorem endK (hN:Known X):((run tab X 12 [] []).bind fun r2=>some ([AV.p (.bool ((r2.1.headD .undef).pv.toBool))],([]:List Blk)))=some ([.p (.bool true)],[]):=by
 have _:=hX
 rw[hN];rfl
include hT
end
end Go.Skm.Fig
