/-
  The numbers and the colour of a line, as the program reads them; condition: the library's answers, lengths that fit.
-/
import Derived.Test.YtidoclepnecnbaaGreatDoorP14
import Derived.Test.YtidoclepnecnbaaGreatDoorP15
namespace Go.Skm.Drw
open Go Go.Skm
def numsO : List (List UInt8) → Option (List Int)
  | [] => some []
  | w :: l => match numOf w with
    | none => none
    | some n => (numsO l).map (n :: ·)
def ReadOk (R : List AV × List Blk) : Option (List Int × Int × Int × Int) → Prop
  | some (ns, r, e, b) => R = ([.fresh false [.int .i64] (encI ns), .p (colP r e b), .p (.bool true)], [])
  | none => (R.1.tail.tail.headD .undef).pv.toBool = false
def both (acc : List Int) : Option (List Int) → Option (Int × Int × Int) → Option (List Int × Int × Int × Int)
  | some ns, some c => some (acc ++ ns, c)
  | _, _ => none
def strs (W : List (List UInt8)) : List PV := W.map fun p => .str (ba p)
theorem strs_get (W : List (List UInt8)) {i : Nat} (h : i < W.length) : (((strs W).getD i .nil).cell 0).toStr = ba W[i] := by
  rw [List.getD_eq_getElem?_getD]; simp [strs, h]; rfl
def readO (word : List UInt8) (many : Nat) (W : List (List UInt8)) : Option (List Int × Int × Int × Int) :=
  if W.length = many + 2 then (if W.getD 0 [] = word then both [] (numsO ((W.drop 1).take many)) (parseC (W.getD (many + 1) [])) else none) else none
section
variable (X : Ext) (hX : Mine X) (hT : Texts X)
include hX hT
theorem c28_loop (W : List (List UInt8)) (many : Nat) (hm : many ≤ 10) (hW : W.length = many + 2) (hlen : ∀ w ∈ W, w.length ≤ 100000000) : ∀ (k i : Nat) (acc : List Int), i + k = many → acc.length = i →
    ∃ R, L tab (run tab X) 28 [] [.lp [1, 1, 1, 1, 0, 1, 0]] (S28_1111010 many 0 W.length 0 acc.length 1 many many i 0 0 0 (strs W) (encI acc)) = some R ∧ ReadOk R (both acc (numsO ((W.drop (1 + i)).take k)) (parseC (W.getD (many + 1) []))) := by
  have wm : IntKind.i64.wrap ((many : Int) + 1) = ((many + 1 : Nat) : Int) := by rw [wrap_eq (by omega) (by omega)]; omega
  intro k
  induction k with
  | zero =>
    intro i acc hi ha
    have hlt : many + 1 < W.length := by omega
    have hg : W.getD (many + 1) [] = W[many + 1] := by simp [List.getD_eq_getElem?_getD, hlt]
    have h60 := c46 X hX W[many + 1]
    have hR : L tab (run tab X) 28 [] [.lp [1, 1, 1, 1, 0, 1, 0]] (S28_1111010 many 0 W.length 0 acc.length 1 many many i 0 0 0 (strs W) (encI acc)) =
        some ([.fresh false [.int .i64] (encI acc), .p (.agg [.int .u8 (((colR (parseC W[many + 1])).1.headD .undef).pv.cell 0).toInt, .int .u8 (((colR (parseC W[many + 1])).1.headD .undef).pv.cell 1).toInt, .int .u8 (((colR (parseC W[many + 1])).1.headD .undef).pv.cell 2).toInt]), .p (.bool (((colR (parseC W[many + 1])).1.tail.headD .undef).pv.toInt == 0))], []) := by
      refine L_of ?_
      rw [e28_1111010, wm]
      refine condNP (show ¬ (i : Int) < (many : Int) by omega) ?_
      simp only [condA, condD, Int.toNat_natCast, Nat.zero_add, strs_get W hlt]
      rw [if_pos (by omega), if_pos (by omega)]
      refine bindS h60 ?_
      rw [List.drop_zero, List.take_of_length_le (by simp [encI])]
    refine ⟨_, hR, ?_⟩
    rw [List.take_zero, hg]
    cases hp : parseC W[many + 1] with
    | none => rfl
    | some c =>
      obtain ⟨r, e, b⟩ := c
      simp only [numsO, both, ReadOk, List.append_nil]
      rfl
  | succ k ih =>
    intro i acc hi ha
    have hlt : 1 + i < W.length := by omega
    have w1 : IntKind.i64.wrap ((i : Int) + 1) = ((i + 1 : Nat) : Int) := by rw [wrap_eq (by omega) (by omega)]; omega
    have hd : (W.drop (1 + i)).take (k + 1) = W[1 + i] :: (W.drop (1 + (i + 1))).take k := by
      rw [List.drop_eq_getElem_cons hlt, List.take_succ_cons]; rfl
    have h59 := hT.atoi W[1 + i] (hlen _ (List.getElem_mem hlt))
    have bad : ∀ {v : Int}, atoiR W[1 + i] = [.p (.int .i64 v), .p .ifc] → numOf W[1 + i] = none →
        ∃ R, L tab (run tab X) 28 [] [.lp [1, 1, 1, 1, 0, 1, 0]] (S28_1111010 many 0 W.length 0 acc.length 1 many many i 0 0 0 (strs W) (encI acc)) = some R ∧ ReadOk R (both acc (numsO ((W.drop (1 + i)).take (k + 1))) (parseC (W.getD (many + 1) []))) := by
      intro v e1 e2
      rw [e1] at h59
      refine ⟨([.fresh false [.int .i64] [], .p (colP 0 0 0), .p (.bool false)], []), L_of ?_, ?_⟩
      · rw [e28_1111010, w1]
        refine condP (show (i : Int) < (many : Int) by omega) ?_
        simp only [condA, condD, Int.toNat_natCast, strs_get W hlt]
        rw [if_pos (by omega), if_pos (by omega)]
        exact bindS h59 rfl
      · rw [hd, numsO, e2]
        rfl
    cases h : Lib.atoiAll W[1 + i] with
    | ok v =>
      have hr := atoi_range h
      have e1 : atoiR W[1 + i] = [.p (.int .i64 v), .p .nilif] := by unfold atoiR; rw [h]
      rw [e1] at h59
      have h54 := hT.itoa v hr.1 hr.2
      by_cases he : Lib.itoa v = W[1 + i]
      · have e2 : numOf W[1 + i] = some v := by unfold numOf; rw [h]; simp only; rw [if_pos he]
        obtain ⟨R, hR, hok⟩ := ih (i + 1) (acc ++ [v]) (by omega) (by simp [ha])
        refine ⟨R, L_of ?_, ?_⟩
        · rw [e28_1111010, w1]
          refine condP (show (i : Int) < (many : Int) by omega) ?_
          simp only [condA, condD, Int.toNat_natCast, strs_get W hlt]
          rw [if_pos (by omega), if_pos (by omega)]
          refine bindS h59 (bindS h54 ?_)
          simp only [List.headD_cons, pv_p, toStr_str, ba_beq, he, decide_true, condO, cond_true]
          rw [if_pos (by omega), List.drop_zero, List.take_of_length_le (by simp [encI])]
          have e3 : encI acc ++ ([.int .i64 v] : List PV) = encI (acc ++ [v]) := by simp [encI]
          simp only [List.length_append, List.length_cons, List.length_nil] at hR
          refine Eq.trans ?_ hR
          rw [← e3]; rfl
        · rw [hd, numsO, e2]
          simp only
          cases hn : numsO ((W.drop (1 + (i + 1))).take k) with
          | none => rw [hn] at hok; exact hok
          | some ns =>
            rw [hn] at hok
            simp only [Option.map_some]
            cases hp : parseC (W.getD (many + 1) []) with
            | none => rw [hp] at hok; exact hok
            | some c =>
              rw [hp] at hok
              simp only [both, List.append_assoc, List.cons_append, List.nil_append] at hok ⊢
              exact hok
      · have e2 : numOf W[1 + i] = none := by unfold numOf; rw [h]; simp only; rw [if_neg he]
        have he' : ¬ ba (Lib.itoa v) = ba W[1 + i] := fun e => he (ba_inj.1 e)
        refine ⟨([.fresh false [.int .i64] [], .p (colP 0 0 0), .p (.bool false)], []), L_of ?_, ?_⟩
        · rw [e28_1111010, w1]
          refine condP (show (i : Int) < (many : Int) by omega) ?_
          simp only [condA, condD, Int.toNat_natCast, strs_get W hlt]
          rw [if_pos (by omega), if_pos (by omega)]
          refine bindS h59 (bindS h54 ?_)
          simp only [List.headD_cons, pv_p, toStr_str, ba_beq, decide_eq_false he', condO, cond_false]
        · rw [hd, numsO, e2]
          rfl
    | _ => exact bad (by unfold atoiR; rw [h]) (by unfold numOf; rw [h])
theorem c28 (l word : List UInt8) (hl : l.length ≤ 100000000) (many : Nat) (hm : many ≤ 10) : ∃ R, run tab X 28 [.p (.str (ba l)), .p (.str (ba word)), .p (.int .i64 (many : Int))] [] = some R ∧ ReadOk R (readO word many (splitC 32 l)) := by
  have hlen : ∀ w ∈ splitC 32 l, w.length ≤ 100000000 := fun w hw => Nat.le_trans (splitC_piece hw) hl
  have hne := splitC_ne 32 l
  have hlen2 := splitC_length 32 l
  generalize hS : splitC 32 l = W at *
  have h58 := hT.split l hl
  rw [hS] at h58
  have wm : IntKind.i64.wrap ((many : Int) + 1) = ((many + 1 : Nat) : Int) := by rw [wrap_eq (by omega) (by omega)]; omega
  have wm2 : IntKind.i64.wrap ((many : Int) + 2) = ((many + 2 : Nat) : Int) := by rw [wrap_eq (by omega) (by omega)]; omega
  have sl : (strs W).length = W.length := by simp [strs]
  unfold readO
  by_cases h1 : W.length = many + 2
  · have h0 : 0 < W.length := by omega
    have hg0 : W.getD 0 [] = W[0] := by simp [List.getD_eq_getElem?_getD, h0]
    rw [if_pos h1, hg0]
    by_cases h2 : W[0] = word
    · rw [if_pos h2]
      obtain ⟨R, hR, hok⟩ := c28_loop X hX hT W many hm h1 hlen many 0 [] (by omega) rfl
      refine ⟨R, run_of (hX _ rfl) ?_, hok⟩
      rw [e28, wm, wm2]
      refine bindS h58 ?_
      change cond ((((strs W).length : Nat) : Int) != ((many + 2 : Nat) : Int)) _ (cond (ltI 0 (((strs W).length : Nat) : Int)) (cond (!((((strs W).getD 0 .nil).cell 0).toStr.toList == (ba word).toList)) _ (cond (leI 1 ((many + 1 : Nat) : Int) && (leI ((many + 1 : Nat) : Int) (((strs W).length : Nat) : Int) && leI (((strs W).length : Nat) : Int) (((strs W).length : Nat) : Int))) (L tab (run tab X) 28 [] [.lp [1, 1, 1, 1, 0, 1, 0]] (S28_1111010 many 0 (strs W).length 0 0 1 ((((many + 1 : Nat) : Int) - 1).toNat) (((((many + 1 : Nat) : Int) - 1).toNat : Nat) : Int) 0 0 0 0 (strs W) [])) none)) none) = some R
      have t : (((many + 1 : Nat) : Int) - 1).toNat = many := by omega
      rw [sl, strs_get W h0, ba_beq, h2, t]
      simp only [decide_true, condN, condO, condA, condD, cond_true]
      rw [if_pos (by omega), if_pos (by omega), if_pos (by omega), if_pos (by omega), if_pos (by omega)]
      exact hR
    · rw [if_neg h2]
      have h2' : ¬ ba W[0] = ba word := fun e => h2 (ba_inj.1 e)
      refine ⟨([.fresh false [.int .i64] [], .p (colP 0 0 0), .p (.bool false)], []), run_of (hX _ rfl) ?_, rfl⟩
      rw [e28, wm, wm2]
      refine bindS h58 ?_
      change cond ((((strs W).length : Nat) : Int) != ((many + 2 : Nat) : Int)) _ (cond (ltI 0 (((strs W).length : Nat) : Int)) (cond (!((((strs W).getD 0 .nil).cell 0).toStr.toList == (ba word).toList)) _ _) none) = _
      rw [sl, strs_get W h0, ba_beq, decide_eq_false h2']
      simp only [condN, condO, condD, cond_false]
      rw [if_pos (by omega), if_pos (by omega)]
  · rw [if_neg h1]
    refine ⟨([.fresh false [.int .i64] [], .p (colP 0 0 0), .p (.bool false)], []), run_of (hX _ rfl) ?_, rfl⟩
    rw [e28, wm, wm2]
    refine bindS h58 ?_
    change cond ((((strs W).length : Nat) : Int) != ((many + 2 : Nat) : Int)) _ _ = _
    rw [sl, condN, if_neg (by omega)]
end
end Go.Skm.Drw
