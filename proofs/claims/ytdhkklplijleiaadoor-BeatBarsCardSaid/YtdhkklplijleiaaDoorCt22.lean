/-
  Which tick has a text; the program's reading; condition: the library's answers.
-/
import Derived.Test.YtdhkklplijleiaaDoorCt21
namespace Go.Skm.Beat
open Go Go.Skm

/-- The tick at a place, without overflow. -/
def fromV (a b c beats : Int) : Int := ((a - 1) * beats + b - 1) * 480 + c
def fromOk (a b c beats : Int) : Prop := (1 ≤ beats ∧ beats ≤ 32) ∧ (1 ≤ a ∧ a ≤ 4194304) ∧ (1 ≤ b ∧ b ≤ beats) ∧ (0 ≤ c ∧ c ≤ 479) ∧ fromV a b c beats ≤ 4194304
theorem fromR_zero {a b c beats k : Int} (h : fromR a b c beats = (k, 0)) : fromOk a b c beats ∧ k = fromV a b c beats := by
  unfold fromR at h
  split at h
  · next h1 =>
    split at h
    · next h2 =>
      split at h
      · next h3 =>
        split at h
        · next h4 =>
          have m1 : 0 ≤ (a - 1) * beats := Int.mul_nonneg (by omega) (by omega)
          have m2 : (a - 1) * beats ≤ 4194303 * 32 := Int.mul_le_mul (by omega) (by omega) (by omega) (by omega)
          have w : IntKind.i64.wrap ((IntKind.i64.wrap ((IntKind.i64.wrap ((IntKind.i64.wrap ((IntKind.i64.wrap ((IntKind.i64.wrap (a - (1 : Int))) * beats)) + b)) - (1 : Int))) * (480 : Int))) + c) = fromV a b c beats := by
            unfold fromV
            rw [wrap_eq (x := a - 1) (by omega) (by omega), wrap_eq (x := (a - 1) * beats) (by omega) (by omega), wrap_eq (x := (a - 1) * beats + b) (by omega) (by omega), wrap_eq (x := (a - 1) * beats + b - 1) (by omega) (by omega), wrap_eq (x := ((a - 1) * beats + b - 1) * 480) (by omega) (by omega), wrap_eq (by omega) (by omega)]
          rw [w] at h
          split at h
          · cases h
          · next h5 =>
            injection h with h6 h7
            exact ⟨⟨h1, h2, h3, h4, by omega⟩, h6.symm⟩
        · cases h
      · cases h
    · cases h
  · cases h
theorem fromR_ok {a b c beats : Int} (h : fromOk a b c beats) : fromR a b c beats = (fromV a b c beats, 0) := by
  obtain ⟨h1, h2, h3, h4, h5⟩ := h
  have m1 : 0 ≤ (a - 1) * beats := Int.mul_nonneg (by omega) (by omega)
  have m2 : (a - 1) * beats ≤ 4194303 * 32 := Int.mul_le_mul (by omega) (by omega) (by omega) (by omega)
  have w : IntKind.i64.wrap ((IntKind.i64.wrap ((IntKind.i64.wrap ((IntKind.i64.wrap ((IntKind.i64.wrap ((IntKind.i64.wrap (a - (1 : Int))) * beats)) + b)) - (1 : Int))) * (480 : Int))) + c) = fromV a b c beats := by
    unfold fromV
    rw [wrap_eq (x := a - 1) (by omega) (by omega), wrap_eq (x := (a - 1) * beats) (by omega) (by omega), wrap_eq (x := (a - 1) * beats + b) (by omega) (by omega), wrap_eq (x := (a - 1) * beats + b - 1) (by omega) (by omega), wrap_eq (x := ((a - 1) * beats + b - 1) * 480) (by omega) (by omega), wrap_eq (by omega) (by omega)]
  unfold fromR
  rw [if_pos h1, if_pos h2, if_pos h3, if_pos h4, w, if_neg (by omega)]
theorem fromR_two (a b c beats : Int) : (fromR a b c beats).2 = 0 ∨ (fromR a b c beats).2 ≠ 0 := by omega
/-- There and back. -/
theorem place_from {t b : Int} (h : okB t b = 0) : fromOk (pA t b) (pB t b) (pC t) b ∧ fromV (pA t b) (pB t b) (pC t) b = t := by
  have hp := place_bd h
  obtain ⟨h1, h2⟩ := okB_iff.1 h
  have e := Int.mul_ediv_add_emod (t / 480) b
  have v : fromV (pA t b) (pB t b) (pC t) b = t := by
    unfold fromV pA pB pC
    have : (t / 480 / b + 1 - 1) * b + (t / 480 % b + 1) - 1 = t / 480 := by
      rw [show t / 480 / b + 1 - 1 = t / 480 / b by omega, Int.mul_comm]
      omega
    rw [this]; omega
  exact ⟨⟨h1, hp.1, hp.2.1, hp.2.2, by rw [v]; omega⟩, v⟩
theorem from_place {a b c beats : Int} (h : fromOk a b c beats) : okB (fromV a b c beats) beats = 0 ∧ pA (fromV a b c beats) beats = a ∧ pB (fromV a b c beats) beats = b ∧ pC (fromV a b c beats) = c := by
  obtain ⟨h1, h2, h3, h4, h5⟩ := h
  have m1 : 0 ≤ (a - 1) * beats := Int.mul_nonneg (by omega) (by omega)
  have q : fromV a b c beats / 480 = (a - 1) * beats + (b - 1) := by unfold fromV; omega
  have r : fromV a b c beats % 480 = c := by unfold fromV; omega
  have hb : beats ≠ 0 := by omega
  refine ⟨okB_iff.2 ⟨h1, by unfold fromV; omega, h5⟩, ?_, ?_, r⟩
  · unfold pA
    rw [q, Int.add_comm ((a - 1) * beats), Int.add_mul_ediv_right _ _ hb, Int.ediv_eq_zero_of_lt (by omega) (by omega)]; omega
  · unfold pB
    rw [q, Int.add_comm ((a - 1) * beats), Int.add_mul_emod_self_right, Int.emod_eq_of_lt (by omega) (by omega)]; omega

theorem itoa_nodot {n : Int} : (46 : UInt8) ∉ Lib.itoa n := fun h => by
  have := itoa_byte _ h
  simp at this
theorem txt_split (a b c : Int) : splitC 46 (txt a b c) = [Lib.itoa a, Lib.itoa b, Lib.itoa c] := by
  unfold txt
  rw [splitC_app _ itoa_nodot, splitC_app _ itoa_nodot, splitC_none itoa_nodot]

/-- The numbers of all pieces. -/
def nums : List (List UInt8) → Option (List Int)
  | [] => some []
  | p :: r => match numOf p with
    | none => none
    | some v => match nums r with
      | none => none
      | some l => some (v :: l)
def readEnd (beats : Int) : Option (List Int) → Int × Int
  | some [a, b, c] => if (fromR a b c beats).2 = 0 then ((fromR a b c beats).1, 0) else (0, 6)
  | _ => (0, 6)
/-- The tick with a text, or the error. -/
def ParseP (s : List UInt8) (beats : Int) (p : Int × Int) : Prop :=
  (¬ (1 ≤ beats ∧ beats ≤ 32) ∧ p = (0, 2)) ∨ ((1 ≤ beats ∧ beats ≤ 32) ∧ ((∃ k, okB k beats = 0 ∧ s = txtOf k beats ∧ p = (k, 0)) ∨ ((∀ k, okB k beats = 0 → s ≠ txtOf k beats) ∧ p = (0, 6))))
theorem txtOf_inj {j k b : Int} (hj : okB j b = 0) (hk : okB k b = 0) (h : txtOf j b = txtOf k b) : j = k := by
  have h1 := place_bd hj
  have h2 := place_bd hk
  obtain ⟨b1, -⟩ := okB_iff.1 hj
  have e := congrArg (splitC 46) h
  unfold txtOf at e
  rw [txt_split, txt_split] at e
  simp only [List.cons.injEq, and_true] at e
  have ea := itoa_inj (by omega) (by omega) (by omega) (by omega) e.1
  have eb := itoa_inj (by omega) (by omega) (by omega) (by omega) e.2.1
  have ec := itoa_inj (by omega) (by omega) (by omega) (by omega) e.2.2
  rw [← (place_from hj).2, ← (place_from hk).2, ea, eb, ec]
theorem ParseP.unique {s : List UInt8} {b : Int} {p q : Int × Int} (h1 : ParseP s b p) (h2 : ParseP s b q) : p = q := by
  rcases h1 with ⟨a, rfl⟩ | ⟨a, ⟨k, k1, k2, rfl⟩ | ⟨k1, rfl⟩⟩ <;> rcases h2 with ⟨b, rfl⟩ | ⟨b, ⟨j, j1, j2, rfl⟩ | ⟨j1, rfl⟩⟩
  · rfl
  · exact absurd b a
  · exact absurd b a
  · exact absurd a b
  · rw [txtOf_inj k1 j1 (k2 ▸ j2)]
  · exact absurd k2 (j1 k k1)
  · exact absurd a b
  · exact absurd j2 (k1 j j1)
  · rfl
theorem nums_some : ∀ {w : List (List UInt8)} {l : List Int}, nums w = some l → w = l.map Lib.itoa ∧ ∀ v ∈ l, -9223372036854775808 ≤ v ∧ v ≤ 9223372036854775807
  | [], l, h => by cases h; simp
  | p :: r, l, h => by
    unfold nums at h
    split at h
    · cases h
    · next v hv =>
      split at h
      · cases h
      · next l' hl =>
        cases h
        obtain ⟨h1, h2⟩ := nums_some hl
        obtain ⟨h3, h4⟩ := numOf_some hv
        refine ⟨by rw [h1, h3]; rfl, fun u hu => ?_⟩
        rcases List.mem_cons.1 hu with rfl | hu
        · exact h4
        · exact h2 u hu
theorem readEnd_parse (s : List UInt8) {beats : Int} (hb : 1 ≤ beats ∧ beats ≤ 32) : ParseP s beats (readEnd beats (nums (splitC 46 s))) := by
  refine .inr ⟨hb, ?_⟩
  have key : ∀ a b c : Int, nums (splitC 46 s) = some [a, b, c] → s = txt a b c := by
    intro a b c h
    have h1 := (nums_some h).1
    have h2 := joinC_splitC 46 s
    rw [h1] at h2
    rw [← h2]; rfl
  have back : ∀ k, okB k beats = 0 → s = txtOf k beats → nums (splitC 46 s) = some [pA k beats, pB k beats, pC k] := by
    intro k hk e
    have h1 := place_bd hk
    rw [e, txtOf, txt_split]
    simp only [nums]
    rw [numOf_itoa (by omega) (by omega), numOf_itoa (by omega) (by omega), numOf_itoa (by omega) (by omega)]
  have other : (∀ a b c, nums (splitC 46 s) ≠ some [a, b, c]) → (∀ k, okB k beats = 0 → s ≠ txtOf k beats) := fun h k hk e => h _ _ _ (back k hk e)
  unfold readEnd
  split
  · next a b c h =>
    split
    · next h0 =>
      have hf : fromR a b c beats = ((fromR a b c beats).1, 0) := by rw [← h0]
      obtain ⟨h1, h2⟩ := fromR_zero hf
      obtain ⟨h3, h4, h5, h6⟩ := from_place h1
      refine .inl ⟨(fromR a b c beats).1, ?_, ?_, rfl⟩
      · rw [h2]; exact h3
      · rw [h2, txtOf, h4, h5, h6]; exact key a b c h
    · next h0 =>
      refine .inr ⟨fun k hk e => ?_, rfl⟩
      have h1 := back k hk e
      rw [h] at h1
      simp only [Option.some.injEq, List.cons.injEq, and_true] at h1
      obtain ⟨rfl, rfl, rfl⟩ := h1
      rw [fromR_ok (place_from hk).1] at h0
      exact h0 rfl
  · next h => exact .inr ⟨other fun a b c e => h a b c e, rfl⟩

section
variable (X : Ext) (hX : Mine X)
include hX
theorem c30_loop (hT : Texts X) (beats : Int) (w : List (List UInt8)) (hw : w.length ≤ 1001) (hp : ∀ p ∈ w, p.length ≤ 1000) : ∀ (n i : Nat) (acc : List Int), i + n = w.length → acc.length = i →
    L tab (run tab X) 30 [] [.lp [1, 1, 1, 0, 1, 0]] (S30_111010 beats 0 i 0 w.length w.length i (encI acc) (w.map fun p => .str (ba p))) = some (pairR (readEnd beats (match nums (w.drop i) with | none => none | some l => some (acc ++ l)))) := by
  intro n
  induction n with
  | zero =>
    intro i acc hi ha
    refine L_of ?_
    rw [e30_111010, condD, if_neg (by omega), condN]
    have hd : w.drop i = [] := List.drop_eq_nil_of_le (by omega)
    rw [hd]
    simp only [nums, List.append_nil]
    by_cases h3 : (i : Int) = 3
    · match acc, ha with
      | [a, b, c], ha =>
        rw [if_pos h3]
        simp only [condD]
        rw [if_pos (by omega), if_pos (by omega), if_pos (by omega)]
        have h28 := c28 X hX a b c beats
        simp only [encI, List.map_cons, List.map_nil, Nat.zero_add, List.getD_cons_zero, List.getD_cons_succ, cell_int, toInt_int, h28, readEnd, pairR, Option.bind_some, List.headD_cons, List.tail_cons, pv_p, condN]
        by_cases hz : (fromR a b c beats).2 = 0
        · simp only [hz, ↓reduceIte]
        · simp only [hz, ↓reduceIte]
      | [], ha => simp at ha; omega
      | [_], ha => simp at ha; omega
      | [_, _], ha => simp at ha; omega
      | _ :: _ :: _ :: _ :: _, ha => simp at ha; omega
    · rw [if_neg h3]
      have : readEnd beats (some acc) = (0, 6) := by
        unfold readEnd
        split
        · next a b c e => cases e; simp at ha; omega
        · rfl
      rw [this]; rfl
  | succ n ih =>
    intro i acc hi ha
    have hlt : i < w.length := by omega
    have wn : IntKind.i64.wrap ((i : Int) + 1) = ((i + 1 : Nat) : Int) := by rw [wrap_eq (by omega) (by omega)]; omega
    have hpc : (w[i]).length ≤ 1000 := hp _ (List.getElem_mem hlt)
    have hg : (w.map fun p => PV.str (ba p)).getD (0 + (i : Int).toNat) .nil = .str (ba w[i]) := by
      rw [List.getD_eq_getElem?_getD, List.getElem?_map]; simp [hlt]
    have hd : w.drop i = w[i] :: w.drop (i + 1) := List.drop_eq_getElem_cons hlt
    have hc : (PV.str (ba w[i])).cell 0 = .str (ba w[i]) := rfl
    refine L_of ?_
    rw [e30_111010]
    simp only [condD, condA, hg, hc, toStr_str, wn]
    rw [if_pos (by omega), if_pos (by omega), if_pos (by omega), hT.atoi _ hpc, hd]
    simp only [nums, numOf, atoiR]
    rcases hA : Lib.atoiAll w[i] with v | _ | _
    · obtain ⟨v0, v1⟩ := atoi_range hA
      simp only [Option.bind_some, List.headD_cons, List.tail_cons, pv_p, toInt_int, hT.itoa v v0 v1, toStr_str, ba_beq, ba_inj, PV.isI, PV.isNilI, cond_true, Bool.not_true, cond_false]
      by_cases he : Lib.itoa v = w[i]
      · have ih' := ih (i + 1) (acc ++ [v]) (by omega) (by simp [ha])
        have ht : ((encI acc).drop 0).take i ++ [PV.int .i64 v] = encI (acc ++ [v]) := by
          rw [List.drop_zero, List.take_of_length_le (by simp [ha])]; simp [encI]
        rw [if_pos he]
        simp only [he, decide_true, Bool.not_true, cond_false]
        rw [if_pos (by omega), ht, ih']
        cases nums (w.drop (i + 1)) with
        | none => rfl
        | some l => simp
      · rw [if_neg he]
        simp only [he, decide_false, Bool.not_false, cond_true]
        rfl
    · rfl
    · rfl
theorem c30 (hT : Texts X) (l : List UInt8) (hl : l.length ≤ 1000) (beats : Int) : ∃ p, ParseP l beats p ∧ run tab X 30 [.p (.str (ba l)), .p (.int .i64 beats)] [] = some (pairR p) := by
  by_cases hb : 1 ≤ beats ∧ beats ≤ 32
  · refine ⟨_, readEnd_parse l hb, run_of (hX _ (by decide) (by decide) (by decide)) ?_⟩
    rw [e30, c34 X hX]
    simp only [Option.bind_some, List.headD_cons, pv_p, toBool_bool, hb, and_self, decide_true, Bool.not_true, cond_false, hT.split l hl, freshList_fresh, List.length_map]
    have h1 := splitC_length 46 l
    have := c30_loop X hX hT beats (splitC 46 l) (by omega) (fun p hp => by have := splitC_piece hp; omega) (splitC 46 l).length 0 [] (by omega) rfl
    rw [List.drop_zero] at this
    rw [show ((0 : Nat) : Int) = 0 from rfl] at this
    have e : (match nums (splitC 46 l) with | none => none | some l => some ([] ++ l)) = nums (splitC 46 l) := by
      cases nums (splitC 46 l) <;> rfl
    rw [e] at this
    exact this
  · refine ⟨(0, 2), .inl ⟨hb, rfl⟩, run_of (hX _ (by decide) (by decide) (by decide)) ?_⟩
    rw [e30, c34 X hX]
    simp only [Option.bind_some, List.headD_cons, pv_p, toBool_bool, hb, decide_false, Bool.not_false, cond_true]
    rfl
end
end Go.Skm.Beat
