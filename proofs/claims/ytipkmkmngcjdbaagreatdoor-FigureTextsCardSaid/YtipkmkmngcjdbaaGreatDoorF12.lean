/-
  The document's points of a figure: halves merged; the two answers are one; condition: figures that fit.
-/
import Derived.Test.YtipkmkmngcjdbaaGreatDoorF11
namespace Go.Skm.Fig
open Go Go.Skm
section
variable (X:Ext) (hX:Mine X)
include hX
theorem len0 (a:V3) (l:List V3):(0:Int)<(((encL (a::l)).length:Nat):Int):=by have _ := hX; simp only[encL_length,List.length_cons];omega
end
end Go.Skm.Fig
