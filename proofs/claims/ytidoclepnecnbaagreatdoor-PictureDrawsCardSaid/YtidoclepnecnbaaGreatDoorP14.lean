/-
  The text of a picture, as the document writes it; condition: lengths that fit.
-/
import Derived.Test.YtidoclepnecnbaaGreatDoorP13
namespace Go.Skm.Drw
open Go Go.Skm
abbrev encN (w h a e b : Int) : PV := .agg [.int .i64 w, .int .i64 h, .int .u8 a, .int .u8 e, .int .u8 b, .nil]
section
variable (X : Ext) (hX : Mine X)
include hX
end
end Go.Skm.Drw
