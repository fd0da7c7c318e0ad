/-
  The picture with a text: what is parsed is what was written; plain lists of bytes, no condition.
-/
import Derived.Test.YtidoclepnecnbaaGreatDoorP18
namespace Go.Skm.Drw
open Go Go.Skm
structure Good (p : Pi) : Prop where
  valid : validP p = true
  col : Col (p.a, p.e, p.b)
  dots : ∀ v ∈ p.d, Col (v.a, v.e, v.b)
end Go.Skm.Drw
