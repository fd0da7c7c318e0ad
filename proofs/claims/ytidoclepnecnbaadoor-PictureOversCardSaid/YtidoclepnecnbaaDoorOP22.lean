/-
  The laws of valid pictures and of colours, from the examples (Known); condition: a picture as a law's argument is.
-/
import Derived.Test.YtidoclepnecnbaaDoorOP12
import Derived.Test.YtidoclepnecnbaaDoorOP10
namespace Go.Skm.Pio
open Go Go.Skm
def Known (X : Ext) : Prop := run tab X 10 [] [] = some ([.p (.bool true)], [])
section
variable (X : Ext) (hX : Mine X)
include hX
end
end Go.Skm.Pio
