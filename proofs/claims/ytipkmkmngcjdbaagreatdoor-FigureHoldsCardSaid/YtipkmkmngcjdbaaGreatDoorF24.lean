/-
  What the document reads in a line: the numbers of its words, and that it accepts what the program accepts; no condition.
-/
import Derived.Test.YtipkmkmngcjdbaaGreatDoorF21
namespace Go.Skm.Fig
open Go Go.Skm
def eN (l:List Int):List PV:=l.map fun n=>.int .i64 n
@[simp] theorem eN_length (l:List Int):(eN l).length=l.length:=by simp[eN]
end Go.Skm.Fig
