/-
  The nearest tick of a grid: the document's walk; condition: none.
-/
import Derived.Test.YtdhkklplijleiaaGreatDoorB9
namespace Go.Skm.Cue
open Go Go.Skm
section
variable (X : Ext) (hX : Mine X)
include hX
end
end Go.Skm.Cue
