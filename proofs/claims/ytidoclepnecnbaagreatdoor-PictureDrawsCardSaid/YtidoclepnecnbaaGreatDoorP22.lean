/-
  The laws of valid pictures and of colours, from the examples (Known); condition: a picture as a law's argument is.
-/
import Derived.Test.YtidoclepnecnbaaGreatDoorP12
import Derived.Test.YtidoclepnecnbaaGreatDoorP10
namespace Go.Skm.Drw
open Go Go.Skm
def Known (X : Ext) : Prop := run tab X 4 [] [] = some ([.p (.bool true)], [])
section
variable (X : Ext) (hX : Mine X)
include hX
end
end Go.Skm.Drw
