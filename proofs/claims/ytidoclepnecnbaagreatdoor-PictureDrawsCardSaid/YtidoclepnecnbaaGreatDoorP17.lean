/-
  Lines of a text: what is read of a line is what was written; plain lists of bytes, no condition.
-/
import Derived.Test.YtidoclepnecnbaaGreatDoorP16
namespace Go.Skm.Drw
open Go Go.Skm
def Col (c : Int × Int × Int) : Prop := In8 c.1 ∧ In8 c.2.1 ∧ In8 c.2.2
end Go.Skm.Drw
