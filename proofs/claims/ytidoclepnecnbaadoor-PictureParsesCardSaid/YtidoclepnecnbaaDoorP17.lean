/-
  Lines of a text: what is read of a line is what was written; plain lists of bytes, no condition.
-/
import Derived.Test.YtidoclepnecnbaaDoorP16
namespace Go.Skm.Pic
open Go Go.Skm
theorem itoa_space {n : Int} : (32 : UInt8) ∉ Lib.itoa n := fun h => by
  have := itoa_byte _ h
  simp at this
theorem itoa_break {n : Int} : (10 : UInt8) ∉ Lib.itoa n := fun h => by
  have := itoa_byte _ h
  simp at this
theorem hx_space_all : ∀ n : Fin 16, hx (n.val : Nat) ≠ 32 ∧ hx (n.val : Nat) ≠ 10 := by decide +kernel
theorem hx_space {n : Int} (h0 : 0 ≤ n) (h1 : n < 16) : hx n ≠ 32 ∧ hx n ≠ 10 := by
  have := hx_space_all ⟨n.toNat, by omega⟩
  simp only at this
  rwa [show ((n.toNat : Nat) : Int) = n by omega] at this
theorem colT_space {r e b : Int} (h1 : In8 r) (h2 : In8 e) (h3 : In8 b) : (32 : UInt8) ∉ colT r e b ∧ (10 : UInt8) ∉ colT r e b := by
  unfold In8 at h1 h2 h3
  unfold colT
  simp only [List.mem_cons, List.not_mem_nil, or_false, not_or]
  refine ⟨⟨by decide, ?_, ?_, ?_, ?_, ?_, ?_⟩, ⟨by decide, ?_, ?_, ?_, ?_, ?_, ?_⟩⟩
  · exact (hx_space (by omega) (by omega)).1.symm
  · exact (hx_space (by omega) (by omega)).1.symm
  · exact (hx_space (by omega) (by omega)).1.symm
  · exact (hx_space (by omega) (by omega)).1.symm
  · exact (hx_space (by omega) (by omega)).1.symm
  · exact (hx_space (by omega) (by omega)).1.symm
  · exact (hx_space (by omega) (by omega)).2.symm
  · exact (hx_space (by omega) (by omega)).2.symm
  · exact (hx_space (by omega) (by omega)).2.symm
  · exact (hx_space (by omega) (by omega)).2.symm
  · exact (hx_space (by omega) (by omega)).2.symm
  · exact (hx_space (by omega) (by omega)).2.symm
def lineB (w : List UInt8) (ns : List Int) (c : Int × Int × Int) : List UInt8 := w ++ (numsT ns ++ 32 :: colT c.1 c.2.1 c.2.2)
theorem lineT_eq (w : List UInt8) (ns : List Int) (r e b : Int) : lineT w ns r e b = lineB w ns (r, e, b) ++ [10] := by simp [lineT, lineB]
theorem lineB_cons (w : List UInt8) (n : Int) (l : List Int) (c : Int × Int × Int) : lineB w (n :: l) c = w ++ 32 :: lineB (Lib.itoa n) l c := by simp [lineB, numsT]
def Col (c : Int × Int × Int) : Prop := In8 c.1 ∧ In8 c.2.1 ∧ In8 c.2.2
theorem lineB_split {c : Int × Int × Int} (hc : Col c) : ∀ {ns : List Int} {w : List UInt8}, (32 : UInt8) ∉ w → splitC 32 (lineB w ns c) = w :: (ns.map Lib.itoa ++ [colT c.1 c.2.1 c.2.2])
  | [], w, hw => by
    rw [show lineB w [] c = w ++ 32 :: colT c.1 c.2.1 c.2.2 by simp [lineB, numsT], splitC_app _ hw, splitC_none (colT_space hc.1 hc.2.1 hc.2.2).1]
    rfl
  | n :: l, w, hw => by
    rw [lineB_cons, splitC_app _ hw, lineB_split hc itoa_space]
    rfl
theorem lineB_join {c : Int × Int × Int} : ∀ {ns : List Int} {w : List UInt8}, joinC 32 (w :: (ns.map Lib.itoa ++ [colT c.1 c.2.1 c.2.2])) = lineB w ns c
  | [], w => by simp [lineB, numsT, joinC]
  | n :: l, w => by
    rw [lineB_cons, ← lineB_join (ns := l) (w := Lib.itoa n)]
    rfl
theorem lineB_break {w : List UInt8} {c : Int × Int × Int} (hc : Col c) (hw : (10 : UInt8) ∉ w) : ∀ {ns : List Int}, (10 : UInt8) ∉ lineB w ns c := by
  intro ns
  have hn : ∀ l : List Int, (10 : UInt8) ∉ numsT l := by
    intro l
    induction l with
    | nil => simp [numsT]
    | cons n l ih =>
      simp only [numsT, List.mem_cons, List.mem_append, not_or]
      exact ⟨by decide, itoa_break, ih⟩
  simp only [lineB, List.mem_append, List.mem_cons, not_or]
  exact ⟨hw, hn _, by decide, (colT_space hc.1 hc.2.1 hc.2.2).2⟩
theorem numsO_some : ∀ {W : List (List UInt8)} {ns : List Int}, numsO W = some ns → W = ns.map Lib.itoa ∧ ∀ n ∈ ns, In64 n
  | [], ns, h => by simp [numsO] at h; subst h; simp
  | w :: l, ns, h => by
    simp only [numsO] at h
    split at h
    · cases h
    · next n hn =>
      cases hl : numsO l with
      | none => rw [hl] at h; cases h
      | some ms =>
        rw [hl] at h
        simp only [Option.map_some, Option.some.injEq] at h
        subst h
        obtain ⟨h1, h2⟩ := numsO_some hl
        obtain ⟨g1, g2, g3⟩ := numOf_some hn
        refine ⟨by rw [List.map_cons, ← g1, ← h1], fun m hm => ?_⟩
        rcases List.mem_cons.1 hm with rfl | hm
        · exact ⟨g2, g3⟩
        · exact h2 m hm
theorem numsO_itoa : ∀ {ns : List Int}, (∀ n ∈ ns, In64 n) → numsO (ns.map Lib.itoa) = some ns
  | [], _ => rfl
  | n :: l, h => by
    have hn := h n (by simp)
    rw [List.map_cons, numsO, numOf_itoa hn.1 hn.2, numsO_itoa fun m hm => h m (by simp [hm])]
    rfl
theorem readO_line {w : List UInt8} {ns : List Int} {c : Int × Int × Int} (hw : (32 : UInt8) ∉ w) (hn : ∀ n ∈ ns, In64 n) (hc : Col c) : readO w ns.length (splitC 32 (lineB w ns c)) = some (ns, c) := by
  rw [lineB_split hc hw]
  unfold readO
  rw [if_pos (by simp), if_pos (show (w :: (List.map Lib.itoa ns ++ [colT c.1 c.2.1 c.2.2])).getD 0 [] = w from rfl)]
  have e1 : ((w :: (ns.map Lib.itoa ++ [colT c.1 c.2.1 c.2.2])).drop 1).take ns.length = ns.map Lib.itoa := by
    simp
  have e2 : (w :: (ns.map Lib.itoa ++ [colT c.1 c.2.1 c.2.2])).getD (ns.length + 1) [] = colT c.1 c.2.1 c.2.2 := by
    rw [List.getD_eq_getElem?_getD, List.getElem?_cons_succ, List.getElem?_append_right (by simp)]
    simp
  rw [e1, e2, numsO_itoa hn, parseC_colT hc.1 hc.2.1 hc.2.2]
  rfl
theorem readO_some {w l : List UInt8} {many : Nat} {ns : List Int} {c : Int × Int × Int} (h : readO w many (splitC 32 l) = some (ns, c)) : l = lineB w ns c ∧ ns.length = many ∧ (∀ n ∈ ns, In64 n) ∧ Col c := by
  unfold readO at h
  split at h
  · next h1 =>
    split at h
    · next h2 =>
      have hj := joinC_splitC 32 l
      generalize splitC 32 l = W at *
      cases hn : numsO ((W.drop 1).take many) with
      | none => rw [hn] at h; cases h
      | some ms =>
        rw [hn] at h
        cases hp : parseC (W.getD (many + 1) []) with
        | none => rw [hp] at h; cases h
        | some c' =>
          rw [hp] at h
          simp only [both, List.nil_append, Option.some.injEq, Prod.mk.injEq] at h
          obtain ⟨rfl, rfl⟩ := h
          obtain ⟨g1, g2⟩ := numsO_some hn
          obtain ⟨r, e, b⟩ := c'
          obtain ⟨p1, p2⟩ := parseC_some hp
          have hlen : ms.length = many := by
            have := congrArg List.length g1
            simp only [List.length_take, List.length_drop, List.length_map] at this
            omega
          refine ⟨?_, hlen, g2, p1⟩
          rw [← hj, ← lineB_join]
          congr 1
          show W = w :: (List.map Lib.itoa ms ++ [colT r e b])
          rw [← p2, ← g1]
          match W, h1, h2 with
          | x :: W', h1, h2 =>
            simp only [List.getD_cons_zero] at h2
            subst h2
            simp only [List.length_cons] at h1
            simp only [List.drop_succ_cons, List.drop_zero, List.getD_cons_succ, List.cons.injEq, true_and]
            have hW : W'.take many ++ W'.drop many = W' := List.take_append_drop many W'
            conv => lhs; rw [← hW]
            congr 1
            have hlt : many < W'.length := by omega
            rw [List.drop_eq_getElem_cons hlt, List.drop_eq_nil_of_le (by omega)]
            simp [List.getD_eq_getElem?_getD, hlt]
    · cases h
  · cases h
end Go.Skm.Pic
