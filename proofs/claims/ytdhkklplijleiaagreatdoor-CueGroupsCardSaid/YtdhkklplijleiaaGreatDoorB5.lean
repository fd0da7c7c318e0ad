/-
  The exact time and the time of a tick, the tick at a time, or the errors: the program's and the document's; condition: no list longer than Go allows.
-/
import Derived.Test.YtdhkklplijleiaaGreatDoorB4
namespace Go.Skm.Cue
open Go Go.Skm
def exactR (l : List Tm) (x : Int) : Int × Int := if validB l = true then (if 0 ≤ x ∧ x ≤ Top then (exS l x, 0) else (0, 3)) else (0, 2)
def timeR (l : List Tm) (x : Int) : Int × Int := if validB l = true then (if 0 ≤ x ∧ x ≤ Top then (if tmS l x > 3600000 then (0, 3) else (tmS l x, 0)) else (0, 3)) else (0, 2)
def pairR (p : Int × Int) : List AV × List Blk := ([.p (.int .i64 p.1), .p (.int .i64 p.2)], [])
def timesOk : List Int → Bool
  | [] => true
  | t :: r => decide (0 ≤ t ∧ t ≤ 3600000) && timesOk r
def checkR (l : List Tm) (step : Int) (ts : List Int) : Int := if validB l = true ∧ 1 ≤ step ∧ step ≤ Top then (if timesOk ts = true then 0 else 3) else 2
section
variable (X : Ext) (hX : Mine X)
include hX
theorem c93 (l : List Tm) (hl : l.length ≤ maxLen) (x : Int) : run tab X 93 [.p (.list true kT (encM l)), .p (.int .i64 x)] [] = some (pairR (exactR l x)) :=
  run_of (hX _ rfl) (by
    have ht : Top = 4194304 := rfl
    have h12 := c127 X hX l hl
    rw [kT] at h12
    rw [e93, h12]
    simp only [c128 X hX, Option.bind_some, List.headD_cons, pv_p, toBool_bool, condO]
    unfold exactR
    cases hv : validB l with
    | false => rfl
    | true =>
      simp only [cond_true, if_true, condD]
      by_cases h : 0 ≤ x ∧ x ≤ Top
      · have h36 := c129 X hX (valid_of hv) h.1 h.2
        rw [kT] at h36
        rw [if_pos h, if_pos h, h36]
        rfl
      · rw [if_neg h, if_neg h]
        rfl)
theorem c100 (l : List Tm) (x : Int) : run tab X 100 [.p (.list true kT (encM l)), .p (.int .i64 x)] [] = some (pairR (exactR l x)) :=
  run_of (hX _ rfl) (by
    have ht : Top = 4194304 := rfl
    have h12 := c67 X hX l
    rw [kT] at h12
    rw [e100, h12]
    simp only [c95 X hX, Option.bind_some, List.headD_cons, pv_p, toBool_bool, condO]
    unfold exactR
    cases hv : validB l with
    | false => rfl
    | true =>
      simp only [cond_true, if_true, condD]
      by_cases h : 0 ≤ x ∧ x ≤ Top
      · have h36 := c99 X hX (valid_of hv) (x := x) (by omega) h.2
        rw [kT] at h36
        rw [if_pos h, if_pos h, h36]
        rfl
      · rw [if_neg h, if_neg h]
        rfl)
theorem c65 (l : List Tm) (hl : l.length ≤ maxLen) (x : Int) : run tab X 65 [.p (.list true kT (encM l)), .p (.int .i64 x)] [] = some (pairR (timeR l x)) :=
  run_of (hX _ rfl) (by
    have h14 := c93 X hX l hl x
    rw [kT] at h14
    rw [e65, h14]
    simp only [pairR, Option.bind_some, List.headD_cons, List.tail_cons, pv_p, toInt_int, condN]
    unfold exactR timeR
    cases hv : validB l with
    | false => rfl
    | true =>
      by_cases h : 0 ≤ x ∧ x ≤ Top
      · have h37 := c91 X hX (valid_of hv) h.1 h.2
        rw [kT] at h37
        rw [if_pos rfl, if_pos rfl, if_pos h, if_pos h]
        change (if (0 : Int) = 0 then _ else _) = _
        rw [if_pos rfl, h37]
        change (bif decide (tmS l x > 3600000) then _ else _) = _
        rw [condD]
        by_cases h2 : tmS l x > 3600000
        · rw [if_pos h2, if_pos h2]
        · rw [if_neg h2, if_neg h2]
          rfl
      · rw [if_pos rfl, if_pos rfl, if_neg h, if_neg h]
        rfl)
theorem c69 (l : List Tm) (x : Int) : run tab X 69 [.p (.list true kT (encM l)), .p (.int .i64 x)] [] = some (pairR (timeR l x)) :=
  run_of (hX _ rfl) (by
    have h18 := c100 X hX l x
    rw [kT] at h18
    rw [e69, h18]
    simp only [pairR, Option.bind_some, List.headD_cons, List.tail_cons, pv_p, toInt_int, condN]
    unfold exactR timeR
    cases hv : validB l with
    | false => rfl
    | true =>
      by_cases h : 0 ≤ x ∧ x ≤ Top
      · have hb := exS_bd (valid_of hv) h.2
        have h44 := c98 X hX hb.1 hb.2
        rw [if_pos rfl, if_pos rfl, if_pos h, if_pos h]
        change (if (0 : Int) = 0 then _ else _) = _
        rw [if_pos rfl, h44]
        change (bif decide (tmS l x > 3600000) then _ else _) = _
        rw [condD]
        by_cases h2 : tmS l x > 3600000
        · rw [if_pos h2, if_pos h2]
        · rw [if_neg h2, if_neg h2]
          rfl
      · rw [if_pos rfl, if_pos rfl, if_neg h, if_neg h]
        rfl)
theorem c88_loop (ts : List Int) (hl : ts.length ≤ maxLen) : ∀ (n i : Nat), i + n = ts.length → L tab (run tab X) 88 [] [.lp [1, 1, 0, 1, 0]] (S88_11010 (encI ts) ts.length i) = some ([.p (.int .i64 (if timesOk (ts.drop i) = true then 0 else 3))], []) := by
  have hm : (maxLen : Int) = 9223372036854775807 := by decide
  intro n
  induction n with
  | zero =>
    intro i hi
    refine L_of ?_
    rw [e88_11010]
    simp only [condD]
    rw [if_neg (by omega), List.drop_eq_nil_of_le (by omega)]
    rfl
  | succ n ih =>
    intro i hi
    have hlt : i < ts.length := by omega
    have w : IntKind.i64.wrap ((i : Int) + 1) = ((i + 1 : Nat) : Int) := by rw [wrap_eq (by omega) (by omega)]; omega
    have hg : (((encI ts).getD i .nil).cell 0).toInt = ts[i] := by
      rw [List.getD_eq_getElem?_getD]
      simp [encI, hlt]
    refine L_of ?_
    rw [e88_11010]
    simp only [c128 X hX, condD, condA, condO, encI_length, Option.bind_some, List.headD_cons, pv_p, toBool_bool, Int.toNat_natCast, hg, w, ih (i + 1) (by omega)]
    rw [if_pos (by omega), if_pos (by omega), if_pos (by omega), List.drop_eq_getElem_cons hlt]
    by_cases h : 0 ≤ ts[i] ∧ ts[i] ≤ 3600000
    · have hf : timesOk (ts[i] :: ts.drop (i + 1)) = timesOk (ts.drop (i + 1)) := by simp [timesOk, h]
      rw [if_pos h, hf]
    · have hf : timesOk (ts[i] :: ts.drop (i + 1)) = false := by simp [timesOk, h]
      rw [if_neg h, hf]
      rfl
theorem c88 (l : List Tm) (hl : l.length ≤ maxLen) (step : Int) (ts : List Int) (ht : ts.length ≤ maxLen) : run tab X 88 [.p (.list true kT (encM l)), .p (.int .i64 step), .p (.list false [.int .i64] (encI ts))] [] = some ([.p (.int .i64 (checkR l step ts))], []) :=
  run_of (hX _ rfl) (by
    have hT : Top = 4194304 := rfl
    have h12 := c127 X hX l hl
    rw [kT] at h12
    rw [e88, h12]
    simp only [c128 X hX, Option.bind_some, List.headD_cons, pv_p, toBool_bool, condO]
    unfold checkR
    cases hv : validB l with
    | false => rfl
    | true =>
      simp only [cond_true, condD, true_and]
      have h0 := c88_loop X hX ts ht ts.length 0 (by omega)
      rw [List.drop_zero] at h0
      by_cases h : 1 ≤ step ∧ step ≤ Top
      · rw [if_pos h, if_pos h, encI_length]; exact h0
      · rw [if_neg h, if_neg h])
end
end Go.Skm.Cue
