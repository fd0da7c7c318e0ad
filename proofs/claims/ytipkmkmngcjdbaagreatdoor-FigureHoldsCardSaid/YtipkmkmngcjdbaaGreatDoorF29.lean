/-
  The law Limits; condition: the library's answers.
-/
import Derived.Test.YtipkmkmngcjdbaaGreatDoorF28
import Derived.Test.YtipkmkmngcjdbaaGreatDoorF21
namespace Go.Skm.Fig
open Go Go.Skm
theorem dt (z:List PV):(z.drop 0).take z.length=z:=by simp
theorem fits_fig {f:List Sh} (h:figB f=true):Fits f:=by
 obtain⟨h1,h2⟩:=fig_shapes h
 exact⟨by omega,fun s hs=>by have:=(h2 s hs).1;omega⟩
section
variable (X:Ext) (hX:Mine X)
include hX
end
end Go.Skm.Fig
