/-
  The document's reading of a text; condition: none.
-/
import Derived.Test.YtdhkklplijleiaaDoorCt22
namespace Go.Skm.Beat
open Go Go.Skm

def addD (a : Int) (x : UInt8) : Int := goMin 9999999 (10 * a + ((x.toNat : Int) - 48))
def accD : Int → List UInt8 → Int
  | a, [] => a
  | a, x :: r => accD (addD a x) r
def upd (p : Nat) (f : Int → Int) (n : Int × Int × Int) : Int × Int × Int :=
  match p with
  | 0 => (f n.1, n.2.1, n.2.2)
  | 1 => (n.1, f n.2.1, n.2.2)
  | _ => (n.1, n.2.1, f n.2.2)
def scan : List UInt8 → Nat → Int × Int × Int → Option (Int × Int × Int)
  | [], _, n => some n
  | x :: r, p, n => if (x.toNat : Int) = 46 then (if p + 1 > 2 then none else scan r (p + 1) n) else if (x.toNat : Int) < 48 then none else if (x.toNat : Int) > 57 then none else scan r p (upd p (addD · x) n)
theorem upd_upd (p : Nat) (f g : Int → Int) (n : Int × Int × Int) : upd p f (upd p g n) = upd p (fun x => f (g x)) n := by
  match p with
  | 0 => rfl
  | 1 => rfl
  | _ + 2 => rfl
theorem upd_id (p : Nat) (n : Int × Int × Int) : upd p (fun x => x) n = n := by
  match p with
  | 0 => rfl
  | 1 => rfl
  | _ + 2 => rfl
theorem scan_digits (r : List UInt8) (p : Nat) : ∀ (xs : List UInt8) (n : Int × Int × Int), (∀ b ∈ xs, 48 ≤ b.toNat ∧ b.toNat ≤ 57) → scan (xs ++ r) p n = scan r p (upd p (accD · xs) n)
  | [], n, _ => by
    have : (fun x => accD x []) = fun x => x := rfl
    rw [List.nil_append, this, upd_id]
  | x :: xs, n, h => by
    have hx := h x (by simp)
    rw [List.cons_append, scan, if_neg (by omega), if_neg (by omega), if_neg (by omega), scan_digits r p xs _ (fun b hb => h b (by simp [hb])), upd_upd]
    rfl
theorem accD_app : ∀ (xs ys : List UInt8) (a : Int), accD a (xs ++ ys) = accD (accD a xs) ys
  | [], _, _ => rfl
  | x :: xs, ys, a => by rw [List.cons_append, accD, accD, accD_app xs ys]
theorem accD_dec {u : Nat} : u ≤ 9999999 → accD 0 (Lib.decDigits u) = u := by
  induction u using Nat.strongRecOn with
  | ind u ih =>
    intro hu
    rw [Lib.decDigits]
    split
    · next h =>
      simp only [accD, addD, digit_toNat h, goMin]
      split <;> omega
    · next h =>
      rw [accD_app, ih (u / 10) (by omega) (by omega)]
      simp only [accD, addD, digit_toNat (show u % 10 < 10 by omega), goMin]
      split <;> omega
theorem scan_txt {a b c : Int} (ha : 0 ≤ a ∧ a ≤ 9999999) (hb : 0 ≤ b ∧ b ≤ 9999999) (hc : 0 ≤ c ∧ c ≤ 9999999) : scan (txt a b c) 0 (0, 0, 0) = some (a, b, c) := by
  have e46 : (((46 : UInt8).toNat : Nat) : Int) = 46 := rfl
  have d : ∀ n : Int, 0 ≤ n → n ≤ 9999999 → accD 0 (Lib.itoa n) = n := by
    intro n h0 h1
    rw [itoa_nat h0, accD_dec (by omega)]; omega
  have q : ∀ n : Int, 0 ≤ n → ∀ x ∈ Lib.itoa n, 48 ≤ x.toNat ∧ x.toNat ≤ 57 := by
    intro n h0 x hx
    rw [itoa_nat h0] at hx
    exact decDigits_digit x hx
  unfold txt
  rw [scan_digits _ 0 _ _ (q a ha.1), scan, if_pos e46, if_neg (by omega), scan_digits _ 1 _ _ (q b hb.1), scan, if_pos e46, if_neg (by omega)]
  rw [← List.append_nil (Lib.itoa c), scan_digits _ 2 _ _ (q c hc.1), scan]
  simp only [upd, d a ha.1 ha.2, d b hb.1 hb.2, d c hc.1 hc.2]
/-- What is made of the numbers. -/
def scanEnd (s : List UInt8) (beats : Int) : Option (Int × Int × Int) → Int × Int
  | none => (0, 6)
  | some (a, b, c) => if (fromR a b c beats).2 = 0 then (if txtOf (fromR a b c beats).1 beats = s then ((fromR a b c beats).1, 0) else (0, 6)) else (0, 6)
theorem scanEnd_parse (s : List UInt8) {beats : Int} (hb : 1 ≤ beats ∧ beats ≤ 32) : ParseP s beats (scanEnd s beats (scan s 0 (0, 0, 0))) := by
  refine .inr ⟨hb, ?_⟩
  have back : ∀ k, okB k beats = 0 → s = txtOf k beats → scan s 0 (0, 0, 0) = some (pA k beats, pB k beats, pC k) := by
    intro k hk e
    have h1 := place_bd hk
    rw [e, txtOf]
    exact scan_txt (by omega) (by omega) (by omega)
  have good : ∀ k, okB k beats = 0 → s = txtOf k beats → scanEnd s beats (scan s 0 (0, 0, 0)) = (k, 0) := by
    intro k hk e
    rw [back k hk e]
    simp only [scanEnd]
    rw [fromR_ok (place_from hk).1, (place_from hk).2, if_pos rfl, if_pos e.symm]
  by_cases h : ∃ k, okB k beats = 0 ∧ s = txtOf k beats
  · obtain ⟨k, hk, e⟩ := h
    exact .inl ⟨k, hk, e, good k hk e⟩
  · refine .inr ⟨fun k hk e => h ⟨k, hk, e⟩, ?_⟩
    unfold scanEnd
    split
    · rfl
    · next a b c _ =>
      split
      · next h0 =>
        split
        · next h1 =>
          have hf : fromR a b c beats = ((fromR a b c beats).1, 0) := by rw [← h0]
          obtain ⟨h2, h3⟩ := fromR_zero hf
          obtain ⟨h4, -⟩ := from_place h2
          rw [← h3] at h4
          exact absurd ⟨_, h4, h1.symm⟩ h
        · rfl
      · rfl
theorem wrapU8 {n : Nat} (h1 : 48 ≤ n) (h2 : n ≤ 57) : IntKind.u8.wrap ((n : Int) - 48) = (n : Int) - 48 := by
  have : n = 48 ∨ n = 49 ∨ n = 50 ∨ n = 51 ∨ n = 52 ∨ n = 53 ∨ n = 54 ∨ n = 55 ∨ n = 56 ∨ n = 57 := by omega
  rcases this with rfl | rfl | rfl | rfl | rfl | rfl | rfl | rfl | rfl | rfl <;> rfl
theorem addD_bd {a : Int} {x : UInt8} (h : 0 ≤ a ∧ a ≤ 9999999) (hx : 48 ≤ x.toNat) : 0 ≤ addD a x ∧ addD a x ≤ 9999999 := by
  unfold addD goMin
  split <;> omega
theorem addD_eq {a : Int} {x : UInt8} (h : 0 ≤ a ∧ a ≤ 9999999) (h1 : 48 ≤ x.toNat) (h2 : x.toNat ≤ 57) :
    goMin 9999999 (IntKind.i64.wrap ((IntKind.i64.wrap ((10 : Int) * a)) + (IntKind.i64.wrap (IntKind.u8.wrap ((x.toNat : Int) - (48 : Int)))))) = addD a x := by
  rw [wrapU8 h1 h2, wrap_eq (x := 10 * a) (by omega) (by omega), wrap_eq (x := (x.toNat : Int) - 48) (by omega) (by omega), wrap_eq (by omega) (by omega)]; rfl
section
variable (X : Ext) (hX : Mine X)
include hX
theorem c31_loop (l : List UInt8) (hl : l.length ≤ 1000) (beats : Int) : ∀ (d i p : Nat) (n : Int × Int × Int), i + d = l.length → p ≤ 2 → (0 ≤ n.1 ∧ n.1 ≤ 9999999) → (0 ≤ n.2.1 ∧ n.2.1 ≤ 9999999) → (0 ≤ n.2.2 ∧ n.2.2 ≤ 9999999) →
    L tab (run tab X) 31 [] [.lp [1, 1, 1, 1, 0, 1, 0]] (S31_1111010 (ba l) beats p i n.1 n.2.1 n.2.2) = some (pairR (scanEnd l beats (scan (l.drop i) p n))) := by
  intro d
  induction d with
  | zero =>
    intro i p n hi hp h0 h1 h2
    refine L_of ?_
    have e := c29 X hX n.1 n.2.1 n.2.2 beats
    rw [e31_1111010, condD, ba_size, if_neg (by omega), List.drop_eq_nil_of_le (by omega), scan, scanEnd]
    by_cases hf : (fromR n.1 n.2.1 n.2.2 beats).2 = 0
    · have hf' : fromR n.1 n.2.1 n.2.2 beats = ((fromR n.1 n.2.1 n.2.2 beats).1, 0) := by rw [← hf]
      obtain ⟨g1, g2⟩ := fromR_zero hf'
      obtain ⟨g3, -⟩ := from_place g1
      rw [← g2] at g3
      have h27 := c27 X hX (fromR n.1 n.2.1 n.2.2 beats).1 beats
      rw [textR, if_pos g3] at h27
      rw [if_pos hf]
      refine bindS e (condF (show ((fromR n.1 n.2.1 n.2.2 beats).2 != 0) = false by simpa using hf) (bindS h27 ?_))
      by_cases ht : txtOf (fromR n.1 n.2.1 n.2.2 beats).1 beats = l
      · rw [if_pos ht]
        exact condF (show (!((ba (txtOf (fromR n.1 n.2.1 n.2.2 beats).1 beats)).toList == (ba l).toList)) = false by rw [ba_beq, ht]; simp) rfl
      · rw [if_neg ht]
        exact condT (show (!((ba (txtOf (fromR n.1 n.2.1 n.2.2 beats).1 beats)).toList == (ba l).toList)) = true by rw [ba_beq]; simp [ba_inj, ht]) rfl
    · rw [if_neg hf]
      exact bindS e (condT (show ((fromR n.1 n.2.1 n.2.2 beats).2 != 0) = true by simpa using hf) rfl)
  | succ d ih =>
    intro i p n hi hp h0 h1 h2
    have hlt : i < l.length := by omega
    have wn : IntKind.i64.wrap ((i : Int) + 1) = ((i + 1 : Nat) : Int) := by rw [wrap_eq (by omega) (by omega)]; omega
    have wp : IntKind.i64.wrap ((p : Int) + 1) = ((p + 1 : Nat) : Int) := by rw [wrap_eq (by omega) (by omega)]; omega
    have hg : (ba l).data.getD (i : Int).toNat 0 = l[i] := by
      simp [ba, hlt]
    have hd : l.drop i = l[i] :: l.drop (i + 1) := List.drop_eq_getElem_cons hlt
    generalize hx : l[i] = x at hg hd
    refine L_of ?_
    rw [e31_1111010]
    simp only [condD, condA, condE, condN, hg, wn, wp, ba_size]
    have c1 : (i : Int) < (l.length : Int) := by omega
    have c0 : (0 : Int) ≤ (i : Int) := by omega
    simp only [c1, c0, if_true]
    rw [hd, scan]
    by_cases h46 : (x.toNat : Int) = 46
    · simp only [h46, if_true]
      by_cases hp2 : p + 1 > 2
      · rw [if_pos (by omega), if_pos hp2]; rfl
      · rw [if_neg (by omega), if_neg hp2]
        exact ih (i + 1) (p + 1) n (by omega) (by omega) h0 h1 h2
    · simp only [h46, if_false]
      by_cases h48 : (x.toNat : Int) < 48
      · rw [if_pos h48, if_pos h48]; rfl
      · rw [if_neg h48, if_neg h48]
        by_cases h57 : (x.toNat : Int) > 57
        · rw [if_pos h57, if_pos h57]; rfl
        · rw [if_neg h57, if_neg h57]
          have b1 : 48 ≤ x.toNat := by omega
          have b2 : x.toNat ≤ 57 := by omega
          have hp3 : p = 0 ∨ p = 1 ∨ p = 2 := by omega
          rw [if_neg (by omega)]
          rcases hp3 with rfl | rfl | rfl
          · rw [addD_eq h0 b1 b2]
            exact ih (i + 1) 0 (addD n.1 x, n.2.1, n.2.2) (by omega) (by omega) (addD_bd h0 b1) h1 h2
          · rw [addD_eq h1 b1 b2]
            exact ih (i + 1) 1 (n.1, addD n.2.1 x, n.2.2) (by omega) (by omega) h0 (addD_bd h1 b1) h2
          · rw [addD_eq h2 b1 b2]
            exact ih (i + 1) 2 (n.1, n.2.1, addD n.2.2 x) (by omega) (by omega) h0 h1 (addD_bd h2 b1)
theorem c31 (l : List UInt8) (hl : l.length ≤ 1000) (beats : Int) : ∃ p, ParseP l beats p ∧ run tab X 31 [.p (.str (ba l)), .p (.int .i64 beats)] [] = some (pairR p) := by
  by_cases hb : 1 ≤ beats ∧ beats ≤ 32
  · refine ⟨_, scanEnd_parse l hb, run_of (hX _ (by decide) (by decide) (by decide)) ?_⟩
    rw [e31, c35 X hX]
    simp only [Option.bind_some, List.headD_cons, pv_p, toBool_bool, hb, and_self, decide_true, Bool.not_true, cond_false]
    exact c31_loop X hX l hl beats l.length 0 0 (0, 0, 0) (by omega) (by omega) (by simp) (by simp) (by simp)
  · refine ⟨(0, 2), .inl ⟨hb, rfl⟩, run_of (hX _ (by decide) (by decide) (by decide)) ?_⟩
    rw [e31, c35 X hX]
    simp only [Option.bind_some, List.headD_cons, pv_p, toBool_bool, hb, decide_false, Bool.not_false, cond_true]
    rfl
theorem c8 (hT : Texts X) (hk : Known X) (t b bar at_ rest : Int) : run tab X 8 [.p (.int .i64 t), .p (.int .i64 b), .p (.int .i64 bar), .p (.int .i64 at_), .p (.int .i64 rest)] [] = some ([.p (.bool true)], []) :=
  run_of (hX _ (by decide) (by decide) (by decide)) (by
    unfold Known at hk
    rw [e8, c24 X hX, c25 X hX, c26 X hX hT, c27 X hX, c28 X hX, c29 X hX, hk]
    simp only [Option.bind_some, beq_self_eq_true, cond_true]
    rfl)
theorem c9 (hT : Texts X) (hk : Known X) (l : List UInt8) (beats : Int) : run tab X 9 [.p (.str (ba l)), .p (.int .i64 beats)] [] = some ([.p (.bool true)], []) :=
  run_of (hX _ (by decide) (by decide) (by decide)) (by
    unfold Known at hk
    rw [e9, condD, ba_size]
    by_cases h : (l.length : Int) > 100
    · rw [if_pos h, hk]; rfl
    · rw [if_neg h]
      obtain ⟨p, p1, p2⟩ := c30 X hX hT l (by omega) beats
      obtain ⟨q, q1, q2⟩ := c31 X hX l (by omega) beats
      rw [q1.unique p1] at q2
      rw [p2, q2, hk]
      simp only [Option.bind_some, beq_self_eq_true, cond_true]
      rfl)
end
end Go.Skm.Beat
