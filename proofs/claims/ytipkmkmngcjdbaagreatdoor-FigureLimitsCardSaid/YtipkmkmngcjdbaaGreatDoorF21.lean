/-
  The laws Points, Texts and Valid; condition: the library's answers, arguments that fit.
-/
import Derived.Test.YtipkmkmngcjdbaaGreatDoorF20
namespace Go.Skm.Fig
open Go Go.Skm
section
variable (X:Ext) (hX:Mine X) (hT:Texts X)
include hX
theorem ptsE_len (l:List V3):(ptsE l).1.length≤4096:=by
 have _:=hX
 unfold ptsE
 split
 · split
   · simp
   · simp only;omega
 · simp
theorem ptsR_len (f:List Sh):(ptsR f).1.length≤4096:=by
 unfold ptsR
 split
 · exact ptsE_len X hX _
 · simp
theorem endK (hN:Known X):((run tab X 12 [] []).bind fun r2=>some ([AV.p (.bool ((r2.1.headD .undef).pv.toBool))],([]:List Blk)))=some ([.p (.bool true)],[]):=by
 have _:=hX
 rw[hN];rfl
include hT
end
end Go.Skm.Fig
