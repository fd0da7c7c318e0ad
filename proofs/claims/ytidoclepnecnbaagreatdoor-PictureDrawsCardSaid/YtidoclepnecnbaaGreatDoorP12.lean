/-
  Row: the program lays the dots one over another; condition: lengths that fit.
-/
import Derived.Test.YtidoclepnecnbaaGreatDoorP11
namespace Go.Skm.Drw
open Go Go.Skm
section
variable (X : Ext) (hX : Mine X)
include hX
end
end Go.Skm.Drw
