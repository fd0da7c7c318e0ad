/-
  The examples hold; condition: the library's answers.
-/
import Derived.Test.YtidoclepnecnbaaGreatDoorP23
namespace Go.Skm.Drw
open Go Go.Skm
def smp : Pi := ⟨20, 10, 0, 0, 0, [⟨5, 5, 2, 255, 0, 0⟩, ⟨7, 5, 1, 0, 0, 255⟩]⟩
theorem smp_text : textP smp = [112, 105, 99, 116, 117, 114, 101, 32, 50, 48, 32, 49, 48, 32, 35, 48, 48, 48, 48, 48, 48, 10, 100, 111, 116, 32, 53, 32, 53, 32, 50, 32, 35, 102, 102, 48, 48, 48, 48, 10, 100, 111, 116, 32, 55, 32, 53, 32, 49, 32, 35, 48, 48, 48, 48, 102, 102, 10] := by decide +kernel
theorem smp_ok : ∀ v ∈ smp.d, v.ok := by
  intro v hv
  simp only [smp, List.mem_cons, List.not_mem_nil, or_false] at hv
  rcases hv with rfl | rfl <;> exact ⟨⟨by decide, by decide⟩, ⟨by decide, by decide⟩, ⟨by decide, by decide⟩, ⟨by decide, by decide⟩, ⟨by decide, by decide⟩, ⟨by decide, by decide⟩⟩
section
variable (X : Ext) (hX : Mine X) (hT : Texts X)
include hX
theorem c12v (p : Pi) (hl : p.d.length ≤ maxLen) {x y r e b : Int} (h : pixR p x y = ([.p (colP r e b), .p (.int .i64 0)], [])) : run tab X 12 [.p (encP p), .p (.int .i64 x), .p (.int .i64 y), .p (colP r e b)] [] = some ([.p (.bool true)], []) := by
  rw [c12 X hX p hl, h]
  simp
theorem c7n (w h a e b : Int) : run tab X 7 [.p (encP ⟨w, h, a, e, b, []⟩), .p (encN w h a e b)] [] = some ([.p (.bool true)], []) :=
  run_of (hX _ rfl) (by
    have hL : L tab (run tab X) 7 [] [.lp [1, 1, 0, 1, 0]] (S7_11010n 0 w h a e b (encL []) w h a e b) = some ([.p (.bool true)], []) := by
      refine L_of ?_
      rw [e7_11010n]
      exact condNP (show ¬ (0 : Int) < (((encL []).length : Nat) : Int) by decide) rfl
    rw [e7n]
    simp only [condN, condO, beq_self_eq_true, Bool.and_self, cond_true, if_true]
    rw [if_pos (show (((encL []).length : Nat) : Int) = 0 from rfl)]
    exact hL)
theorem c9 : run tab X 9 [] [] = some ([.p (encP smp)], []) := run_of (hX _ rfl) (e9 _)
include hT
theorem known : Known X :=
  run_of (hX _ rfl) (by
    have hl : smp.d.length ≤ maxLen := by decide
    have h14 : run tab X 10 [.p (encP smp)] [] = some ([.p (.str (ba (textP smp))), .p (.int .i64 0)], []) := c10 X hX hT smp hl ⟨⟨by decide, by decide⟩, ⟨by decide, by decide⟩, ⟨by decide, by decide⟩⟩ smp_ok
    rw [smp_text] at h14
    have s1 := c12v X hX smp hl (x := 5) (y := 7) (r := 255) (e := 0) (b := 0) (by rfl)
    have s2 := c12v X hX smp hl (x := 6) (y := 5) (r := 0) (e := 0) (b := 255) (by rfl)
    have s3 := c12v X hX smp hl (x := 7) (y := 5) (r := 0) (e := 0) (b := 255) (by rfl)
    have s4 := c12v X hX smp hl (x := 7) (y := 7) (r := 0) (e := 0) (b := 0) (by rfl)
    have s5 := c12v X hX ⟨20, 10, 0, 0, 0, smp.d ++ [⟨5, 5, 1, 0, 255, 0⟩]⟩ (by decide) (x := 5) (y := 5) (r := 0) (e := 255) (b := 0) (by rfl)
    have s6 := c12v X hX ⟨20, 10, 0, 0, 0, smp.d ++ [⟨5, 5, 1, 0, 255, 0⟩]⟩ (by decide) (x := 5) (y := 7) (r := 255) (e := 0) (b := 0) (by rfl)
    have h40 := c26_snoc X hX [112, 105, 99, 116, 117, 114, 101, 32, 50, 48, 32, 49, 48, 32, 35, 48, 48, 48, 48, 48] 48 (by decide)
    rw [if_neg (by decide)] at h40
    have hbad := c15_bad X hX hT [112, 105, 99, 116, 117, 114, 101, 32, 50, 48, 32, 49, 48, 32, 35, 48, 48, 48, 48, 48, 48] [112, 105, 99, 116, 117, 114, 101, 32, 50, 48, 32, 49, 48, 32, 35, 48, 48, 48, 48, 48, 48] (by decide) h40
    rw [e4]
    refine bindS (c9 X hX) (bindS h14 (bindS (c11 X hX smp hl 20 0) ?_))
    refine condF rfl (condF rfl (condF (by rw [show ([AV.p (.str (ba [112, 105, 99, 116, 117, 114, 101, 32, 50, 48, 32, 49, 48, 32, 35, 48, 48, 48, 48, 48, 48, 10, 100, 111, 116, 32, 53, 32, 53, 32, 50, 32, 35, 102, 102, 48, 48, 48, 48, 10, 100, 111, 116, 32, 55, 32, 53, 32, 49, 32, 35, 48, 48, 48, 48, 102, 102, 10])), AV.p (.int .i64 0)] : List AV).headD .undef = .p (.str (ba [112, 105, 99, 116, 117, 114, 101, 32, 50, 48, 32, 49, 48, 32, 35, 48, 48, 48, 48, 48, 48, 10, 100, 111, 116, 32, 53, 32, 53, 32, 50, 32, 35, 102, 102, 48, 48, 48, 48, 10, 100, 111, 116, 32, 55, 32, 53, 32, 49, 32, 35, 48, 48, 48, 48, 102, 102, 10])) from rfl, pv_p, toStr_str, ba_beq]; rfl) ?_))
    refine bindS s1 (condF rfl (bindS s2 (condF rfl (bindS s3 (condF rfl (bindS s4 (condF rfl ?_)))))))
    refine bindS (c13 X hX smp hl 7 5 3 3) (bindS (c13 X hX smp hl 9 0 11 10) (bindS (c13 X hX smp hl 9 0 12 10) ?_))
    refine condF rfl (condF rfl (condF rfl ?_))
    refine bindS (c7 X hX ⟨3, 3, 0, 0, 0, [⟨-2, 0, 2, 255, 0, 0⟩, ⟨0, 0, 1, 0, 0, 255⟩]⟩ ⟨3, 3, 0, 0, 0, [⟨-2, 0, 2, 255, 0, 0⟩, ⟨0, 0, 1, 0, 0, 255⟩]⟩ (by decide)) (condF rfl ?_)
    refine bindS (c7n X hX 11 10 0 0 0) (condF rfl ?_)
    refine bindS (c14 X hX smp ⟨20, 10, 0, 0, 0, [⟨5, 5, 1, 0, 255, 0⟩]⟩ hl (by decide)) (bindS hbad (condT rfl (condT rfl ?_)))
    exact bindS s5 (condT rfl (bindS s6 rfl)))
end
end Go.Skm.Drw
