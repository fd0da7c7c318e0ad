/-
  The points of a figure, by the program (a set, sorted by the library) and by the document (merged halves); condition: figures that fit, and a library that sorts a set's keys.
-/
import Derived.Test.YtipkmkmngcjdbaaGreatDoorF11
import Derived.Test.YtipkmkmngcjdbaaGreatDoorF10p
namespace Go.Skm.Fig
open Go Go.Skm
theorem lf_len (s:Sh) (hm:s.m≤500):∀ n i,(lf s n i).length≤(n+1)*501
 | 0,i=>by
  show (if s.k=3 then lineP (at_ s.c i) (at_ s.c 0) s.m else []).length≤_
  split
  · unfold lineP;rw[seg_length];omega
  · simp
 | n+1,i=>by
  show (lineP (at_ s.c i) (at_ s.c (i+1)) s.m++lf s n (i+1)).length≤_
  have:=lf_len s hm n (i+1)
  rw[List.length_append];unfold lineP;rw[seg_length];omega
theorem iF_len (s:Sh) (d R:Int) (hd:d≤50) (hR:R≤50):∀ n a,(iF s d R n a).length≤n*10201
 | 0,_=>by simp[iF]
 | n+1,a=>by
  show (jF s d a _ _++iF s d R n (a+1)).length≤_
  have h1:=jF_len s d a (2*R+1).toNat (-R)
  have h2:(2*R+1).toNat*(2*d+1).toNat≤101*101:=Nat.mul_le_mul (by omega) (by omega)
  have h3:=iF_len s d R hd hR n (a+1)
  rw[List.length_append];omega
theorem ptsS_len {s:Sh} (h:Shape s):(ptsS s).length≤1040000:=by
 have h':=h
 obtain⟨h1,h2,h3⟩:=h
 unfold ptsS
 split
 · omega
 · split
   · have:=lf_len s (by omega) (s.c.length-1) 0
     unfold linesP;omega
   · next k1 k2 =>
     have hr:=(shape_rou h' k1 k2).r
     have hd:dR s≤50:=by unfold dR;split<;>omega
     have:=iF_len s (dR s) s.r hd (by omega) (2*s.r+1).toNat (-s.r)
     unfold shellP shellF;omega
section
variable (X:Ext) (hX:Mine X)
include hX
theorem c36 (s:Sh) (h:Shape s):run tab X 36 [.p (eS s)] []=some ([.p (.list true kV (encL (ptsS s)))],[]):=by
 unfold ptsS
 by_cases k1:s.k=1
 · rw[if_pos k1]
   exact run_of (hX _ rfl) (by rw[e36];exact condEqs k1 rfl)
 · rw[if_neg k1]
   by_cases k2:s.k=2∨s.k=3
   · rw[if_pos k2];exact c36a X hX s (shape_lin h k2)
   · rw[if_neg k2];exact c36b X hX s (shape_rou h k1 k2)
end
end Go.Skm.Fig

