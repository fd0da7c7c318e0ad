/-
  The law Parses: the document reads a text as the program does; condition: the library's answers.
-/
import Derived.Test.YtipkmkmngcjdbaaGreatDoorF24
import Derived.Test.YtipkmkmngcjdbaaGreatDoorSkmE
import Derived.Test.YtipkmkmngcjdbaaGreatDoorTab
import Derived.KernelRfl
namespace Go.Skm.Fig
open Go Go.Skm
theorem pF_len:∀ (n:Nat) (num:Int) (acc:List Sh) (l:List UInt8),acc.length+n≤50→(∀ s∈acc,Shape s)→(pF n num acc l).1.length≤50∧∀ s∈(pF n num acc l).1,Shape s
 | 0,num,acc,l,h,hs=>by
  unfold pF
  split
  · exact⟨by show acc.length≤50;omega,hs⟩
  · exact⟨by simp,by simp⟩
 | n+1,num,acc,l,h,hs=>by
  unfold pF
  split
  · exact⟨by show acc.length≤50;omega,hs⟩
  · split
    · next hh =>
      refine pF_len n (num+1) _ _ (by simp only[List.length_append,List.length_cons,List.length_nil];omega) fun s hm=>?_
      rcases List.mem_append.1 hm with hm | hm
      · exact hs s hm
      · rw[List.mem_singleton]at hm
        rw[hm];exact(acc_some hh.1).1
    · exact⟨by simp,by simp⟩
theorem parsP_ok (l:List UInt8):(parsP l).1.length≤50∧∀ s∈(parsP l).1,Shape s:=pF_len 50 1 [] l (by simp) (by simp)
section
variable (X:Ext) (hX:Mine X)
include hX
variable (hT:Texts X)
include hT
end
end Go.Skm.Fig
