/-
  The law of texts, from the examples and the library's answers; condition: a picture as a law's argument is.
-/
import Derived.Test.YtidoclepnecnbaaGreatDoorP22
import Derived.Test.YtidoclepnecnbaaGreatDoorP19
namespace Go.Skm.Drw
open Go Go.Skm
section
variable (X : Ext) (hX : Mine X) (hT : Texts X)
include hX hT
end
end Go.Skm.Drw
