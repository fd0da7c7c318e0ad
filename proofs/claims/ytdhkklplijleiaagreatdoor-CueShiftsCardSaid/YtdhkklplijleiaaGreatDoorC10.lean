/-
  The cue with a line: both read the same; condition: the library's answers, a length that fits.
-/
import Derived.Test.YtdhkklplijleiaaGreatDoorC9
namespace Go.Skm.Cue
open Go Go.Skm
def ParseP (s : List UInt8) (p : Option Cu) : Prop := (∃ v, Good v ∧ s = textOf v ∧ p = some v) ∨ ((∀ v, Good v → s ≠ textOf v) ∧ p = none)
theorem ParseP.unique {s : List UInt8} {p q : Option Cu} (h1 : ParseP s p) (h2 : ParseP s q) : p = q := by
  rcases h1 with ⟨v, a1, a2, rfl⟩ | ⟨a1, rfl⟩ <;> rcases h2 with ⟨u, b1, b2, rfl⟩ | ⟨b1, rfl⟩
  · rw [textOf_inj a1 b1 (a2 ▸ b2)]
  · exact absurd a2 (b1 v a1)
  · exact absurd b2 (a1 u b1)
  · rfl
def cueR : Option Cu → List AV × List Blk
  | some v => ([.p (encC v), .p (.int .i64 0)], [])
  | none => ([.p (.agg [.int .i64 0, .int .i64 0, .str ⟨#[]⟩, .int .u8 0, .int .u8 0, .int .u8 0]), .p (.int .i64 6)], [])
theorem five {w : List (List UInt8)} (h : w.length = 5) : ∃ a b c d e, w = [a, b, c, d, e] := by
  match w, h with
  | [a, b, c, d, e], _ => exact ⟨a, b, c, d, e, rfl⟩
theorem not_five {s : List UInt8} (h : (splitC 32 s).length ≠ 5) : ParseP s none :=
  .inr ⟨fun v hv e => h (by rw [e, textOf_split hv]; rfl), rfl⟩
theorem join_five {s a b c d e : List UInt8} (h : splitC 32 s = [a, b, c, d, e]) : s = a ++ 32 :: (b ++ 32 :: (c ++ 32 :: (d ++ 32 :: e))) := by
  have := joinC_splitC 32 s
  rw [h] at this
  exact this.symm
def readR (a t g c f : List UInt8) : Option Cu :=
  if a = [99, 117, 101] then match parseC c with
    | none => none
    | some (r, e, b) => if fineB ⟨numV t, numV f, g, r, e, b⟩ then some ⟨numV t, numV f, g, r, e, b⟩ else none
  else none
theorem readR_parse {s a t g c f : List UInt8} (h : splitC 32 s = [a, t, g, c, f]) : ParseP s (readR a t g c f) := by
  have good : ∀ v, Good v → s = textOf v → readR a t g c f = some v := by
    intro v hv e
    have := textOf_split hv
    rw [← e, h] at this
    simp only [List.cons.injEq, and_true] at this
    obtain ⟨rfl, rfl, rfl, rfl, rfl⟩ := this
    obtain ⟨a1, a2, -⟩ := fineB_iff.1 hv.fine
    unfold readR
    rw [if_pos rfl, parseC_colT hv.r hv.e hv.b, numV_dec a1.1 (by omega), numV_dec a2.1 (by omega)]
    simp only
    rw [if_pos hv.fine]
  by_cases hh : ∃ v, Good v ∧ s = textOf v
  · obtain ⟨v, hv, e⟩ := hh
    exact .inl ⟨v, hv, e, good v hv e⟩
  · refine .inr ⟨fun v hv e => hh ⟨v, hv, e⟩, ?_⟩
    unfold readR
    split
    · next ha =>
      split
      · rfl
      · next r e b hp =>
        split
        · next hf =>
          exfalso
          refine hh ⟨⟨numV t, numV f, g, r, e, b⟩, ?_, ?_⟩
          · obtain ⟨⟨i1, i2, i3⟩, -⟩ := parseC_some hp
            exact ⟨hf, i1, i2, i3⟩
          · obtain ⟨-, hc⟩ := parseC_some hp
            obtain ⟨f1, f2, f3⟩ := fineB_iff.1 hf
            have k1 : Lib.itoa (numV t) = t := by
              rcases numV_some t with h | h
              · simp only [h] at f1; omega
              · exact h.2
            have k2 : Lib.itoa (numV f) = f := by
              rcases numV_some f with h | h
              · simp only [h] at f2; omega
              · exact h.2
            rw [join_five h, ha]
            unfold textOf
            simp only [k1, k2, ← hc]
        · rfl
    · rfl
def aV (l : List UInt8) : Int := match Lib.atoiAll l with
  | .ok v => v
  | .range => Lib.atoiSat l
  | _ => 0
def aOk (l : List UInt8) : Bool := match Lib.atoiAll l with
  | .ok _ => true
  | _ => false
theorem atoiR_eq (l : List UInt8) : atoiR l = [.p (.int .i64 (aV l)), .p (bif aOk l then .nilif else .ifc)] := by
  unfold atoiR aV aOk
  rcases Lib.atoiAll l with v | _ | _ <;> rfl
theorem aOk_itoa {n : Int} (h0 : -9223372036854775808 ≤ n) (h1 : n ≤ 9223372036854775807) : aOk (Lib.itoa n) = true ∧ aV (Lib.itoa n) = n := by
  unfold aOk aV
  rw [atoi_itoa h0 h1]; exact ⟨rfl, rfl⟩
theorem cell_str (s : ByteArray) (j : Nat) : (PV.str s).cell j = .str s := rfl
def readP (s t g c f : List UInt8) : Option Cu :=
  if aOk t = true ∧ aOk f = true then match parseC c with
    | none => none
    | some (r, e, b) => if fineB ⟨aV t, aV f, g, r, e, b⟩ then (if textOf ⟨aV t, aV f, g, r, e, b⟩ = s then some ⟨aV t, aV f, g, r, e, b⟩ else none) else none
  else none
theorem readP_parse {s a t g c f : List UInt8} (h : splitC 32 s = [a, t, g, c, f]) : ParseP s (readP s t g c f) := by
  have good : ∀ v, Good v → s = textOf v → readP s t g c f = some v := by
    intro v hv e
    have := textOf_split hv
    rw [← e, h] at this
    simp only [List.cons.injEq, and_true] at this
    obtain ⟨rfl, rfl, rfl, rfl, rfl⟩ := this
    obtain ⟨a1, a2, -⟩ := fineB_iff.1 hv.fine
    have k1 := aOk_itoa (n := v.t) (by omega) (by omega)
    have k2 := aOk_itoa (n := v.f) (by omega) (by omega)
    unfold readP
    rw [if_pos ⟨k1.1, k2.1⟩, parseC_colT hv.r hv.e hv.b, k1.2, k2.2]
    simp only
    rw [if_pos hv.fine, if_pos e.symm]
  by_cases hh : ∃ v, Good v ∧ s = textOf v
  · obtain ⟨v, hv, e⟩ := hh
    exact .inl ⟨v, hv, e, good v hv e⟩
  · refine .inr ⟨fun v hv e => hh ⟨v, hv, e⟩, ?_⟩
    unfold readP
    split
    · split
      · rfl
      · next r e b hp =>
        split
        · next hf =>
          split
          · next ht =>
            exfalso
            obtain ⟨⟨i1, i2, i3⟩, -⟩ := parseC_some hp
            exact hh ⟨_, ⟨hf, i1, i2, i3⟩, ht.symm⟩
          · rfl
        · rfl
    · rfl
section
variable (X : Ext) (hX : Mine X)
include hX
theorem c11 (hT : Texts X) (s : List UInt8) (hl : s.length ≤ 100000000) : ∃ p, ParseP s p ∧ run tab X 11 [.p (.str (ba s))] [] = some (cueR p) := by
  have hm : maxLen = 9223372036854775807 := by decide
  by_cases h5 : (splitC 32 s).length = 5
  · obtain ⟨a, t, g, c, f, hw⟩ := five h5
    refine ⟨_, readP_parse hw, run_of (hX _ rfl) ?_⟩
    have lp : ∀ p ∈ [a, t, g, c, f], p.length ≤ 100000000 := fun p hp => by
      have := splitC_piece (hw ▸ hp); omega
    have lg : g.length ≤ maxLen := by have := lp g (by simp); omega
    have z : In8 0 := ⟨by omega, by omega⟩
    rw [e11, hT.split s hl, hw]
    simp only [Option.bind_some, List.headD_cons, freshList_fresh, List.length_cons, List.length_nil, List.map_cons, List.map_nil, List.getD_cons_zero, List.getD_cons_succ, cell_str, toStr_str, condN, condD, hT.atoi t (lp t (by simp)), hT.atoi f (lp f (by simp)), c39 X hX c, atoiR_eq, List.tail_cons, pv_p, toInt_int]
    rw [if_pos (by omega), if_pos (by omega), if_pos (by omega), if_pos (by omega), if_pos (by omega)]
    unfold readP
    cases hp : parseC c with
    | none =>
      have hno : (if aOk t = true ∧ aOk f = true then (none : Option Cu) else none) = none := by split <;> rfl
      simp only [hno]
      have h33 : run tab X 33 [.p (.agg [.int .i64 (aV t), .int .i64 (aV f), .str (ba g), .int .u8 0, .int .u8 0, .int .u8 0])] [] = _ := c33 X hX hT ⟨aV t, aV f, g, 0, 0, 0⟩ lg z z z
      refine bindS h33 ?_
      cases aOk t <;> cases aOk f <;> rfl
    | some q =>
      obtain ⟨r, e, b⟩ := q
      obtain ⟨⟨i1, i2, i3⟩, -⟩ := parseC_some hp
      have h33 : run tab X 33 [.p (.agg [.int .i64 (aV t), .int .i64 (aV f), .str (ba g), .int .u8 r, .int .u8 e, .int .u8 b])] [] = _ := c33 X hX hT ⟨aV t, aV f, g, r, e, b⟩ lg i1 i2 i3
      refine bindS h33 ?_
      cases ht : aOk t
      · simp only [Bool.false_eq_true, false_and, if_false]; rfl
      cases hf : aOk f
      · simp only [Bool.false_eq_true, and_false, if_false]; rfl
      simp only [and_self, if_true]
      unfold txR
      cases hv : fineB ⟨aV t, aV f, g, r, e, b⟩
      · rfl
      · simp only [if_true, List.headD_cons, pv_p, toStr_str, ba_beq, ba_dec, List.tail_cons, toInt_int, condO]
        by_cases hs : textOf ⟨aV t, aV f, g, r, e, b⟩ = s
        · rw [if_pos hs]; simp only [hs]; rfl
        · rw [if_neg hs]
          rw [decide_eq_false hs]; rfl
  · refine ⟨_, not_five h5, run_of (hX _ rfl) ?_⟩
    rw [e11, hT.split s hl]
    simp only [Option.bind_some, List.headD_cons, freshList_fresh, List.length_map, condN]
    rw [if_neg (by omega)]; rfl
end
end Go.Skm.Cue
