/-
  Row: the program lays the dots one over another; condition: lengths that fit.
-/
import Derived.Test.YtidoclepnecnbaaDoorOP11
namespace Go.Skm.Pio
open Go Go.Skm
section
variable (X : Ext) (hX : Mine X)
include hX
end
end Go.Skm.Pio
