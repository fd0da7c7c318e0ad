/-
  The law of the grids; condition: the known answers come out.
-/
import Derived.Test.YtdhkklplijleiaaDoorCt18
namespace Go.Skm.Beat
open Go Go.Skm

theorem gridOk_valid {l : List Tm} {frm to s : Int} (h : gridOk l frm to s = 0) : validB l = true ∧ 1 ≤ s ∧ s ≤ 4194304 := by
  have hT : Top = 4194304 := rfl
  unfold gridOk checkR at h
  split at h
  · next q => exact q
  · cases h
section
variable (X : Ext) (hX : Mine X)
include hX
theorem c7 (hk : Known X) (l : List Tm) (frm to s stop : Int) : run tab X 7 [.p (.list true kT (encM l)), .p (.int .i64 frm), .p (.int .i64 to), .p (.int .i64 s), .p (.int .i64 stop)] [] = some ([.p (.bool true)], []) :=
  run_of (hX _ (by decide) (by decide) (by decide)) (by
    have hm : (maxLen : Int) = 9223372036854775807 := by decide
    have hk' := hk
    unfold Known at hk'
    have e : ((encM l).drop 0).take l.length = encM l := by rw [List.drop_zero, ← encM_length, List.take_length]
    have h23 := c23 X hX l frm to s
    rw [kT] at h23 ⊢
    rw [e7, encM_length, condD, e, h23, hk']
    by_cases h : (l.length : Int) > 70
    · rw [if_pos h]; rfl
    · rw [if_neg h]
      have hlen : decide (l.length ≤ 2147483648) = true := decide_eq_true (by omega)
      rw [hlen]
      by_cases hg : gridOk l frm to s = 0
      · obtain ⟨hv, s1, s2⟩ := gridOk_valid hg
        have v := valid_of hv
        obtain ⟨n, rfl⟩ := Int.eq_ofNat_of_zero_le (show 0 ≤ s by omega)
        have h22 := c22_ok X hX l (by omega) frm to n hg (by have := v.pos; omega) v.len
        rw [kT] at h22
        have ho := c7_own X n (encM l) frm to stop false (gridL l frm to n) l.length (by omega) _ (c7_turns X hX hk v (by omega) (by omega) frm to stop false 2 0 (by omega) (by omega)) l.length 0 (encM l) (by omega)
        rw [h22, hg, if_pos rfl]
        cases decide ((n : Int) ≥ 1) <;> cases decide ((n : Int) < 100) <;> cases decide (to > 100000) <;> cases decide (to ≤ 3600000) <;> first | rfl | exact ho
      · have h22 := c22_err X hX l (by omega) frm to s hg
        rw [kT] at h22
        have hb : (gridOk l frm to s != 0) = true := by simpa using hg
        have body : (bif (gridOk l frm to s != gridOk l frm to s) then some ([AV.p (.bool false)], ([] : List Blk)) else bif (!(true == (gridOk l frm to s != 0))) then some ([AV.p (.bool false)], []) else some ([AV.p (.bool true)], [])) = some ([.p (.bool true)], []) := by
          rw [hb, bne_self_eq_false]; rfl
        rw [h22]
        cases decide (s ≥ 1) <;> cases decide (s < 100) <;> cases decide (to > 100000) <;> cases decide (to ≤ 3600000) <;> first | rfl | exact body)
end
end Go.Skm.Beat
