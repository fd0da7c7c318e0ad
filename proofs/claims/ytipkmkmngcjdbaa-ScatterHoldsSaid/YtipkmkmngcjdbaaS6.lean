/-
  The document's picks are the program's; the three laws of lists, from the examples; condition: lists that fit, and a library that copies lists.
-/
import Derived.Test.YtipkmkmngcjdbaaS5
namespace Go.Skm.Sct
open Go Go.Skm
theorem keyP_far {l : List V3} {ks : List Nat} {i : Nat} (hla : ∀ v ∈ l, pnt v = true) (hk : ∀ k ∈ ks, k < l.length) (hi : i < l.length) (h : i ∉ ks) (h0 : ks ≠ []) : keyP l ks i = nr (at_ l i) (ks.map (at_ l)) := by
  unfold keyP
  rw [if_neg h, nr_far (hla _ (at_mem hi)) ?_ (by simpa using h0)]
  intro v hv
  obtain ⟨k, h1, rfl⟩ := List.mem_map.1 hv
  exact hla _ (at_mem (hk k h1))
theorem pickR_len (l : List V3) (many : Int) : (pickR l many).1.length ≤ l.length := by
  unfold pickR
  repeat' split
  all_goals simp
  omega
section
variable (X : Ext) (hX : Mine X)
include hX
def Known (X : Ext) : Prop := run tab X 9 [] [] = some ([.p (.bool true)], [])
omit hX in
theorem known_end (hN : Known X) : ((run tab X 9 [] []).bind fun r => some ([AV.p (.bool ((r.1.headD .undef).pv.toBool))], ([] : List Blk))) = some ([.p (.bool true)], []) := bindS hN rfl
end
end Go.Skm.Sct
