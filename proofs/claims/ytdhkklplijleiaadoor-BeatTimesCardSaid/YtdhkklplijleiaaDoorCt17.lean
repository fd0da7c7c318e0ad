/-
  The law of the grids: both turns, and the overwriting of the caller's map; condition: a valid map, numbers in range, the known answers.
-/
import Derived.Test.YtdhkklplijleiaaDoorCt16
namespace Go.Skm.Beat
open Go Go.Skm

theorem gL_mem (l : List Tm) (s : Nat) (to : Int) : ∀ (n i : Nat), ∀ x ∈ gL l s to n i, ∃ j, x = gE l s j
  | 0, _, x, h => by cases h
  | n + 1, i, x, h => by
    simp only [gL] at h
    split at h
    · cases h
    · rcases List.mem_cons.mp h with h | h
      · exact ⟨i, h⟩
      · exact gL_mem l s to n (i + 1) x h
theorem gL_len (l : List Tm) (s : Nat) (to : Int) : ∀ (n i : Nat), (gL l s to n i).length ≤ n
  | 0, _ => Nat.le_refl 0
  | n + 1, i => by
    simp only [gL]
    split
    · exact Nat.zero_le _
    · have := gL_len l s to n (i + 1)
      simp only [List.length_cons]; omega
theorem gD_mem (l : List Tm) (s : Nat) (frm to : Int) : ∀ (n i : Nat), (gD l s frm to n i).length ≤ n ∧ ∀ x ∈ gD l s frm to n i, ∃ j, x = gE l s j
  | 0, _ => ⟨Nat.le_refl 0, fun x h => by cases h⟩
  | n + 1, i => by
    have ih := gD_mem l s frm to n (i + 1)
    simp only [gD]
    split
    · exact ⟨Nat.zero_le _, fun x h => by cases h⟩
    · split
      · refine ⟨by simp only [List.length_cons]; omega, fun x h => ?_⟩
        rcases List.mem_cons.mp h with h | h
        · exact ⟨i, h⟩
        · exact ih.2 x h
      · exact ⟨by omega, ih.2⟩
section
variable (X : Ext) (hX : Mine X)
include hX
theorem c7_turns (hk : Known X) {l : List Tm} (v : Valid l) {s : Nat} (hs : 1 ≤ s) (hs' : s ≤ 4194304) (frm to stop : Int) (b : Bool) : ∀ (d : Nat) (turn : Int), 0 ≤ turn → turn + d = 2 →
    L tab (run tab X) 7 [] [.lp [1, 1, 1, 1, 1, 1, 1, 1, 0, 1, 0]] (S7_11111111010 s (encM l) frm to stop b (gridL l frm to s) 0 (gridL l frm to s).length turn) = some ([.p (.bool true)], []) := by
  have hN := gN_lt hs
  have hw := gD_mem l s frm to (gN s + 1) 0
  unfold Known at hk
  intro d
  induction d with
  | zero =>
    intro turn h0 h
    refine L_of ?_
    rw [e7_11111111010, condD, if_neg (by omega), hk]
    rfl
  | succ d ih =>
    intro turn h0 h
    refine L_of ?_
    have h47 := c47 X hX v hs hs' frm to
    rw [e7_11111111010, condD, if_pos (by omega), h47]
    exact c7_range X l s s (encM l) frm to stop b (gridL l frm to s) (by unfold gridL; omega) (by unfold gridL; exact hw.2) turn (by omega) _ (ih (turn + 1) (by omega) (by omega)) (gridL l frm to s).length 0 (by omega)
end
end Go.Skm.Beat
