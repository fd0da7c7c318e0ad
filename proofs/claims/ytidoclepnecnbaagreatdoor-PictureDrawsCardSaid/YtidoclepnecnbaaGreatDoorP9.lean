/-
  Which dots touch a part: the document looks at the part's places one by one, the program at the nearest one alone; condition: a valid picture's dot, a part that is not far away.
-/
import Derived.Test.YtidoclepnecnbaaGreatDoorP6
namespace Go.Skm.Drw
open Go Go.Skm
section
variable (X : Ext) (hX : Mine X)
include hX
end
end Go.Skm.Drw
