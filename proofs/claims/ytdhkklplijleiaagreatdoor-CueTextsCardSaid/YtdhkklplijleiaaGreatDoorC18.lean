/-
  The names of the groups by the document; condition: names that fit.
-/
import Derived.Test.YtdhkklplijleiaaGreatDoorC17
namespace Go.Skm.Cue
open Go Go.Skm
section
variable (X : Ext) (hX : Mine X)
include hX
end
end Go.Skm.Cue
