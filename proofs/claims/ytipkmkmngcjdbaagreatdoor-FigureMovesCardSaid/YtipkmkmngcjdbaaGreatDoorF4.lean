/-
  The order of a set's points; the spread of a set, by the program (which leaves a round early) and by the document; condition: lists that fit.
-/
import Derived.Test.YtipkmkmngcjdbaaGreatDoorF3
namespace Go.Skm.Fig
open Go Go.Skm
theorem YU {a b:V3}:mF a b=-1↔a.x<b.x∨(a.x=b.x∧(a.y<b.y∨(a.y=b.y∧a.z<b.z))):=by
 unfold mF Ag;repeat' split
 all_goals simp<;>omega
theorem Tt {a b:V3}:mF a b=1↔mF b a=-1:=by
 rw[YU]
 unfold mF Ag;repeat' split
 all_goals simp<;>omega
theorem cmp_eq {a b:V3}:mF a b=0↔a=b:=by
 constructor
 · intro h
   apply V3.ext'<;>(revert h;unfold mF Ag;repeat' split)<;>simp<;>omega
 · rintro rfl;simp[mF,Ag]
theorem lt_trans {a b c:V3} (h1:mF a b=-1) (h2:mF b c=-1):mF a c=-1:=by
 rw[YU]at *;omega
theorem aaF (a:V3) (l:List V3) (i:Nat):at_ (a::l) (i+1)=at_ l i:=rfl
section
variable (X:Ext) (hX:Mine X)
include hX
end
end Go.Skm.Fig
