/-
  The line of a cue: both write the same; condition: the library's answers, parts in range.
-/
import Derived.Test.YtdhkklplijleiaaGreatDoorC8
namespace Go.Skm.Cue
open Go Go.Skm
structure Texts (X : Ext) : Prop where
  itoa : ∀ n : Int, -9223372036854775808 ≤ n → n ≤ 9223372036854775807 → run tab X 71 [.p (.int .i64 n)] [] = some ([.p (.str (ba (Lib.itoa n)))], [])
  split : ∀ l : List UInt8, l.length ≤ 100000000 → run tab X 37 [.p (.str (ba l)), .p (.str ⟨#[32]⟩)] [] = some ([.fresh false [.str] ((splitC 32 l).map fun p => .str (ba p))], [])
  atoi : ∀ l : List UInt8, l.length ≤ 100000000 → run tab X 38 [.p (.str (ba l))] [] = some (atoiR l, [])
  join : ∀ a b c d e : List UInt8, a.length ≤ 100000000 → b.length ≤ 100000000 → c.length ≤ 100000000 → d.length ≤ 100000000 → e.length ≤ 100000000 →
    run tab X 70 [.p (.list false [.str] [.str (ba a), .str (ba b), .str (ba c), .str (ba d), .str (ba e)]), .p (.str ⟨#[32]⟩)] [] = some ([.p (.str (ba (a ++ 32 :: (b ++ 32 :: (c ++ 32 :: (d ++ 32 :: e))))))], [])
  cmp : CmpS X
  clone : ∀ l : List Cu, l.length ≤ 100000 → run tab X 55 [.p (.list true kC (encU l))] [] = some ([.fresh true kC (encU l)], [])
def textOf (v : Cu) : List UInt8 := [99, 117, 101] ++ 32 :: (Lib.itoa v.t ++ 32 :: (v.g ++ 32 :: (colT v.r v.e v.b ++ 32 :: Lib.itoa v.f)))
def txR (v : Cu) : List AV × List Blk := if fineB v then ([.p (.str (ba (textOf v))), .p (.int .i64 0)], []) else ([.p (.str ⟨#[]⟩), .p (.int .i64 2)], [])
theorem fineB_iff {v : Cu} : fineB v = true ↔ (0 ≤ v.t ∧ v.t ≤ 3600000) ∧ (0 ≤ v.f ∧ v.f ≤ 3600000) ∧ okN v.g = true := by
  simp [fineB, timeB]
theorem okN_len {g : List UInt8} (h : okN g = true) : 1 ≤ g.length ∧ g.length ≤ 32 := by
  simp only [okN, Bool.and_eq_true, decide_eq_true_eq] at h; exact h.1
theorem itoa_len {n : Int} (h : 0 ≤ n) (h2 : n ≤ 3600000) : (Lib.itoa n).length ≤ 3600001 := by
  rw [itoa_nat h]
  have := decDigits_len n.toNat
  omega
section
variable (X : Ext) (hX : Mine X)
include hX
theorem c33 (hT : Texts X) (v : Cu) (hg : v.g.length ≤ maxLen) (h1 : In8 v.r) (h2 : In8 v.e) (h3 : In8 v.b) : run tab X 33 [.p (encC v)] [] = some (txR v) :=
  run_of (hX _ rfl) (by
    rw [e33, c52 X hX v hg]
    simp only [Option.bind_some, List.headD_cons, pv_p, toBool_bool, condO]
    unfold txR
    by_cases hf : fineB v = true
    · obtain ⟨t1, t2, t3⟩ := fineB_iff.1 hf
      have l1 := itoa_len t1.1 t1.2
      have l2 := itoa_len t2.1 t2.2
      have l3 := okN_len t3
      rw [if_pos hf, hf, hT.itoa v.t (by omega) (by omega), c72 X hX h1 h2 h3, hT.itoa v.f (by omega) (by omega)]
      simp only [cond_true, Option.bind_some, List.headD_cons, pv_p, toStr_str]
      refine bindS (hT.join [99, 117, 101] (Lib.itoa v.t) v.g (colT v.r v.e v.b) (Lib.itoa v.f) (by simp) (by omega) (by omega) (by simp [colT]) (by omega)) ?_
      rfl
    · have hf' : fineB v = false := by simpa using hf
      rw [if_neg hf, hf']; rfl)
end
theorem nmAll_iff {g : List UInt8} : ∀ {n i : Nat}, nmAll g i n = true ↔ ∀ j, i ≤ j → j < i + n → nmP ((g.getD j 0).toNat : Int) j
  | 0, i => by simp [nmAll]; omega
  | n + 1, i => by
    simp only [nmAll, nmAt, Bool.and_eq_true, decide_eq_true_eq, nmAll_iff (n := n)]
    constructor
    · rintro ⟨h1, h2⟩ j hj hj'
      by_cases e : j = i
      · rw [e]; exact h1
      · exact h2 j (by omega) (by omega)
    · intro h
      exact ⟨h i (by omega) (by omega), fun j hj hj' => h j (by omega) (by omega)⟩
theorem okN_space {g : List UInt8} (h : okN g = true) : (32 : UInt8) ∉ g := by
  simp only [okN, Bool.and_eq_true, nmAll_iff] at h
  intro hm
  obtain ⟨i, hi, he⟩ := List.getElem_of_mem hm
  have := h.2 i (by omega) (by omega)
  have hg : g.getD i 0 = 32 := by simp [List.getD_eq_getElem?_getD, hi, he]
  rw [hg] at this
  have e32 : (((32 : UInt8).toNat : Nat) : Int) = 32 := rfl
  rw [e32] at this
  unfold nmP at this
  omega
theorem itoa_space {n : Int} : (32 : UInt8) ∉ Lib.itoa n := fun h => by
  have := itoa_byte _ h
  simp at this
theorem hx_space_all : ∀ n : Fin 16, hx (n.val : Nat) ≠ 32 := by decide +kernel
theorem hx_space {n : Int} (h0 : 0 ≤ n) (h1 : n < 16) : hx n ≠ 32 := by
  have := hx_space_all ⟨n.toNat, by omega⟩
  simp only at this
  rwa [show ((n.toNat : Nat) : Int) = n by omega] at this
theorem colT_space {r e b : Int} (h1 : In8 r) (h2 : In8 e) (h3 : In8 b) : (32 : UInt8) ∉ colT r e b := by
  unfold In8 at h1 h2 h3
  unfold colT
  simp only [List.mem_cons, List.not_mem_nil, or_false, not_or]
  refine ⟨by decide, ?_, ?_, ?_, ?_, ?_, ?_⟩ <;> exact (hx_space (by omega) (by omega)).symm
structure Good (v : Cu) : Prop where
  fine : fineB v = true
  r : In8 v.r
  e : In8 v.e
  b : In8 v.b
theorem textOf_split {v : Cu} (h : Good v) : splitC 32 (textOf v) = [[99, 117, 101], Lib.itoa v.t, v.g, colT v.r v.e v.b, Lib.itoa v.f] := by
  obtain ⟨-, -, h3⟩ := fineB_iff.1 h.fine
  unfold textOf
  rw [splitC_app _ (by decide), splitC_app _ itoa_space, splitC_app _ (okN_space h3), splitC_app _ (colT_space h.r h.e h.b), splitC_none itoa_space]
theorem textOf_inj {v u : Cu} (hv : Good v) (hu : Good u) (h : textOf v = textOf u) : v = u := by
  have e := congrArg (splitC 32) h
  rw [textOf_split hv, textOf_split hu] at e
  simp only [List.cons.injEq, and_true, true_and] at e
  obtain ⟨e1, e2, e3, e4⟩ := e
  obtain ⟨a1, a2, -⟩ := fineB_iff.1 hv.fine
  obtain ⟨b1, b2, -⟩ := fineB_iff.1 hu.fine
  have c := congrArg parseC e3
  rw [parseC_colT hv.r hv.e hv.b, parseC_colT hu.r hu.e hu.b] at c
  simp only [Option.some.injEq, Prod.mk.injEq] at c
  have t := itoa_inj (by omega) (by omega) (by omega) (by omega) e1
  have f := itoa_inj (by omega) (by omega) (by omega) (by omega) e4
  cases v; cases u
  simp only at *
  simp [t, f, e2, c]
end Go.Skm.Cue
