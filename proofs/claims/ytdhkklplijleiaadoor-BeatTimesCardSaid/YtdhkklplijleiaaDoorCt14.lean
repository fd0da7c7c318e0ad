/-
  The sample, and the law of the valid maps; condition: the known answers come out.
-/
import Derived.Test.YtdhkklplijleiaaDoorCt13
namespace Go.Skm.Beat
open Go Go.Skm

/-- The sample map. -/
def smp : List Tm := [⟨0, 500000⟩, ⟨960, 250000⟩]
/-- The known answers come out. -/
def Known (X : Ext) : Prop := run tab X 11 [] [] = some ([.p (.bool true)], [])
section
variable (X : Ext) (hX : Mine X)
include hX

theorem c33 (n e w : Int) : run tab X 33 [.p (.int .i64 n), .p (.int .i64 e), .p (.int .i64 w)] [] = some ([.p (.bool (e == 0 && n == w))], []) :=
  run_of (hX _ (by decide) (by decide) (by decide)) (by
    rw [e33]
    cases e == 0 <;> rfl)
theorem c3 (hk : Known X) (l : List Tm) (n : Int) : run tab X 3 [.p (.list true kT (encM l)), .p (.int .i64 n)] [] = some ([.p (.bool true)], []) :=
  run_of (hX _ (by decide) (by decide) (by decide)) (by
    have hm : (maxLen : Int) = 9223372036854775807 := by decide
    have hlen : (encM l).length = l.length := by simp [encM]
    unfold Known at hk
    rw [kT, e3, condD, hlen]
    by_cases h : (l.length : Int) > 70
    · rw [if_pos h, hk]; rfl
    · rw [if_neg h]
      have hl : l.length ≤ maxLen := by omega
      have h12 := c12 X hX l hl
      have h13 := c13 X hX l
      rw [kT] at h12 h13
      simp only [h12, h13, hk, Option.bind_some, List.headD_cons, pv_p, toBool_bool]
      cases hv : validB l with
      | true => rfl
      | false =>
        have h14 := c14 X hX l hl n
        have h15 := c15 X hX l hl n
        obtain ⟨p, p1, p2⟩ := c16 X hX l hl n
        obtain ⟨q, q1, q2⟩ := c17 X hX l hl n n
        have e14 : exactR l n = (0, 2) := by simp [exactR, hv]
        have e15 : timeR l n = (0, 2) := by simp [timeR, hv]
        have e16 : p = (0, 2) := by simpa [TickP, hv] using p1
        have e17 : q = (0, 2) := by simpa [NearP, hv] using q1
        rw [e14, kT] at h14
        rw [e15, kT] at h15
        rw [e16, kT] at p2
        rw [e17, kT] at q2
        simp only [h14, h15, p2, q2]
        rfl)
end
end Go.Skm.Beat
