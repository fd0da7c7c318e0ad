/-
  Names in order without doubles, as the program compacts them; condition: none.
-/
import Derived.Test.YtdhkklplijleiaaGreatDoorC15
namespace Go.Skm.Cue
open Go Go.Skm
abbrev By := List UInt8
def encB (l : List By) : List PV := l.map fun p => .str (ba p)
@[simp] theorem encB_length (l : List By) : (encB l).length = l.length := by simp [encB]
theorem encB_get (l : List By) (i : Nat) : (encB l)[i]? = (l[i]?).map fun p => .str (ba p) := by simp [encB]
@[simp] theorem encB_s (l : List By) (i : Nat) : (((encB l).getD i .nil).cell 0).toStr = ba (l.getD i []) := by
  rw [List.getD_eq_getElem?_getD, List.getD_eq_getElem?_getD, encB_get]
  cases l[i]? <;> rfl
theorem encB_take (l : List By) (n : Nat) : (encB l).take n = encB (l.take n) := by simp [encB]
theorem encB_drop (l : List By) (n : Nat) : (encB l).drop n = encB (l.drop n) := by simp [encB]
theorem encB_append (l m : List By) : encB l ++ encB m = encB (l ++ m) := by simp [encB]
theorem encB_set (l : List By) (i : Nat) (x : By) : (encB l).set i (.str (ba x)) = encB (l.set i x) := by simp [encB, List.map_set]
def cp (l : List By) : Nat → List By
  | 0 => []
  | n + 1 => if n ≠ 0 ∧ l.getD n [] = l.getD (n - 1) [] then cp l n else cp l n ++ [l.getD n []]
theorem cp_all (l : List By) : ∀ n, n ≤ l.length → (∀ j, 0 < j → j < n → l.getD j [] ≠ l.getD (j - 1) []) → cp l n = l.take n
  | 0, _, _ => by simp [cp]
  | n + 1, hn, h => by
    unfold cp
    rw [if_neg (fun e => h n (by omega) (by omega) e.2), cp_all l n (by omega) (fun j hj hj' => h j hj (by omega)), List.take_add_one, List.getD_eq_getElem?_getD, List.getElem?_eq_getElem (by omega)]
    rfl
section
variable (X : Ext) (hX : Mine X)
theorem c63_inner (l : List By) (hl : l.length ≤ 100000) (sb : List PV) (k0 : Nat) (h0 : 1 ≤ k0) (hk0 : k0 < l.length) : ∀ (n k2 : Nat) (bl : List By), k2 + n = l.length - k0 → 1 ≤ k2 →
    bl.length = l.length → bl.take (cp l (k0 + k2)).length = cp l (k0 + k2) → (cp l (k0 + k2)).length < k0 + k2 → (∀ j, k0 + k2 - 1 ≤ j → bl.getD j [] = l.getD j []) →
    ∃ blk, L tab (run tab X) 63 [.arr false [.str] sb] [.lp [1, 1, 0, 1, 0], .lp [1, 0, 0, 1, 0, 1, 0, 1, 0]] (S63_11010_100101010 0 l.length (cp l (k0 + k2)).length k0 (l.length - k0) k2 (encB bl)) =
      some ([.slice 100000 1 0 (cp l l.length).length], [.arr false [.str] blk]) ∧ blk.take (cp l l.length).length = encB (cp l l.length) := by
  intro n
  induction n with
  | zero =>
    intro k2 bl hn h1 hb ht hc hr
    have e : k0 + k2 = l.length := by omega
    rw [e] at ht hc ⊢
    refine ⟨patch (encB bl) (cp l l.length).length (List.replicate (((l.length : Nat) : Int) - (((cp l l.length).length : Nat) : Int)).toNat (PV.str ⟨#[]⟩)), L_of ?_, ?_⟩
    · rw [e63_11010_100101010]
      simp only [condD, condA]
      rw [if_neg (by omega), if_pos (by omega), if_pos (by omega), if_pos (by omega), if_pos (by omega), if_pos (by omega), if_pos (by omega), if_pos (by omega)]
      simp only [Nat.zero_add, Int.sub_zero, Int.toNat_natCast]
    · unfold patch
      rw [List.append_assoc, List.take_append_of_le_length (by rw [List.length_take, encB_length]; omega), List.take_take, Nat.min_self, encB_take, ht]
  | succ n ih =>
    intro k2 bl hn h1 hb ht hc hr
    have w : IntKind.i64.wrap ((k2 : Int) + 1) = ((k2 + 1 : Nat) : Int) := by rw [wrap_eq (by omega) (by omega)]; omega
    have w1 : IntKind.i64.wrap ((k2 : Int) - 1) = ((k2 - 1 : Nat) : Int) := by rw [wrap_eq (by omega) (by omega)]; omega
    have w2 : IntKind.i64.wrap (((cp l (k0 + k2)).length : Int) + 1) = (((cp l (k0 + k2)).length + 1 : Nat) : Int) := by rw [wrap_eq (by omega) (by omega)]; omega
    have r1 := hr (k0 + k2) (by omega)
    have r2 := hr (k0 + (k2 - 1)) (by omega)
    have estep : cp l (k0 + (k2 + 1)) = if l.getD (k0 + k2) [] = l.getD (k0 + (k2 - 1)) [] then cp l (k0 + k2) else cp l (k0 + k2) ++ [l.getD (k0 + k2) []] := by
      show cp l (k0 + k2 + 1) = _
      rw [cp, show k0 + k2 - 1 = k0 + (k2 - 1) by omega]
      by_cases h : l.getD (k0 + k2) [] = l.getD (k0 + (k2 - 1)) []
      · rw [if_pos h, if_pos ⟨by omega, h⟩]
      · rw [if_neg h, if_neg (fun e => h e.2)]
    by_cases h : l.getD (k0 + k2) [] = l.getD (k0 + (k2 - 1)) []
    · rw [if_pos h] at estep
      obtain ⟨blk, g1, g2⟩ := ih (k2 + 1) bl (by omega) (by omega) hb (by rw [estep]; exact ht) (by rw [estep]; omega) (fun j hj => hr j (by omega))
      rw [estep] at g1
      refine ⟨blk, L_of ?_, g2⟩
      rw [e63_11010_100101010]
      simp only [condD, condA, condO, Nat.zero_add, Int.toNat_natCast, w, w1, encB_s, ba_beq, r1, r2, h, decide_true]
      rw [if_pos (by omega), if_pos (by omega), if_pos (by omega), if_pos (by omega), if_pos (by omega)]
      first
        | exact g1
        | (rw [if_pos trivial]; exact g1)
        | (refine iteP (by rfl) ?_; exact g1)
    · rw [if_neg h] at estep
      have hlt : (cp l (k0 + k2)).length < bl.length := by omega
      obtain ⟨blk, g1, g2⟩ := ih (k2 + 1) (bl.set (cp l (k0 + k2)).length (l.getD (k0 + k2) [])) (by omega) (by omega) (by rw [List.length_set]; exact hb) (by
          rw [estep, List.length_append, List.length_cons, List.length_nil, List.take_add_one, List.take_set_of_le (Nat.le_refl _), ht, List.getElem?_set_self hlt]; rfl) (by rw [estep, List.length_append, List.length_cons, List.length_nil]; omega) (fun j hj => by
          rw [List.getD_eq_getElem?_getD, List.getElem?_set_ne (by omega), ← List.getD_eq_getElem?_getD]
          exact hr j (by omega))
      rw [estep, List.length_append, List.length_cons, List.length_nil, Nat.zero_add] at g1
      refine ⟨blk, L_of ?_, g2⟩
      rw [e63_11010_100101010]
      simp only [condD, condA, condO, Nat.zero_add, Int.toNat_natCast, w, w1, w2, encB_s, ba_beq, ba_dec, r1, r2, encB_set]
      rw [if_pos (by omega), if_pos (by omega), if_pos (by omega), if_pos (by omega), if_pos (by omega)]
      refine iteN h ?_
      rw [if_pos (by omega), if_pos (by omega), if_pos (by omega), if_pos (by omega)]
      exact g1
theorem c63_outer (l : List By) (hl : l.length ≤ 100000) (sb : List PV) : ∀ (n k : Nat), k + n = l.length → 1 ≤ k → (∀ j, 0 < j → j < k → l.getD j [] ≠ l.getD (j - 1) []) →
    ∃ blk, L tab (run tab X) 63 [.arr false [.str] sb] [.lp [1, 1, 0, 1, 0]] (S63_11010 0 l.length k (encB l)) =
      some ([.slice 100000 1 0 (cp l l.length).length], [.arr false [.str] blk]) ∧ blk.take (cp l l.length).length = encB (cp l l.length) := by
  intro n
  induction n with
  | zero =>
    intro k hk h1 hd
    have hc := cp_all l l.length (Nat.le_refl _) (fun j hj hj' => hd j hj (by omega))
    rw [List.take_length] at hc
    refine ⟨encB l, L_of ?_, by rw [hc, List.take_of_length_le (by simp)]⟩
    rw [e63_11010, hc]
    simp only [condD]
    rw [if_neg (by omega)]
  | succ n ih =>
    intro k hk h1 hd
    have w : IntKind.i64.wrap ((k : Int) + 1) = ((k + 1 : Nat) : Int) := by rw [wrap_eq (by omega) (by omega)]; omega
    have w1 : IntKind.i64.wrap ((k : Int) - 1) = ((k - 1 : Nat) : Int) := by rw [wrap_eq (by omega) (by omega)]; omega
    by_cases h : l.getD k [] = l.getD (k - 1) []
    · have hc := cp_all l k (by omega) hd
      have hc1 : cp l (k + 1) = cp l k := by rw [cp, if_pos ⟨by omega, h⟩]
      have hlen : (cp l (k + 1)).length = k := by rw [hc1, hc, List.length_take]; omega
      obtain ⟨blk, g1, g2⟩ := c63_inner X l hl sb k h1 (by omega) (l.length - k - 1) 1 l (by omega) (Nat.le_refl _) rfl (by rw [hlen, hc1, hc]) (by omega) (fun j _ => rfl)
      rw [hlen] at g1
      refine ⟨blk, L_of ?_, g2⟩
      rw [e63_11010]
      simp only [condD, condA, Nat.zero_add, Int.toNat_natCast, w1, encB_s, ba_beq, ba_dec]
      rw [if_pos (by omega), if_pos (by omega), if_pos (by omega), if_pos (by omega), if_pos (by omega)]
      refine iteP h ?_
      rw [if_pos (by omega), if_pos (by omega), if_pos (by omega), show (((l.length : Nat) : Int) - (k : Int)).toNat = l.length - k by omega]
      first
        | exact g1
        | (rw [if_pos (by omega)]; exact g1)
    · obtain ⟨blk, g1, g2⟩ := ih (k + 1) (by omega) (by omega) (fun j hj hj' => by
        by_cases e : j = k
        · rw [e]; exact h
        · exact hd j hj (by omega))
      refine ⟨blk, L_of ?_, g2⟩
      rw [e63_11010]
      simp only [condD, condA, Nat.zero_add, Int.toNat_natCast, w, w1, encB_s, ba_beq, ba_dec]
      rw [if_pos (by omega), if_pos (by omega), if_pos (by omega), if_pos (by omega), if_pos (by omega)]
      exact iteN h g1
include hX
theorem c63 (l : List By) (hl : l.length ≤ 100000) : ∃ blk, run tab X 63 [.slice 100000 1 0 l.length] [.arr false [.str] (encB l)] =
      some ([.slice 100000 1 0 (cp l l.length).length], [.arr false [.str] blk]) ∧ blk.take (cp l l.length).length = encB (cp l l.length) := by
  by_cases h : l.length < 2
  · have hc := cp_all l l.length (Nat.le_refl _) (fun j hj hj' => by omega)
    rw [List.take_length] at hc
    refine ⟨encB l, run_of (hX _ rfl) ?_, by rw [hc, List.take_of_length_le (by simp)]⟩
    rw [e63, hc]
    simp only [condD]
    rw [if_pos (by omega)]
  · obtain ⟨blk, g1, g2⟩ := c63_outer X l hl (encB l) (l.length - 1) 1 (by omega) (Nat.le_refl _) (fun j hj hj' => by omega)
    refine ⟨blk, run_of (hX _ rfl) ?_, g2⟩
    rw [e63]
    simp only [condD]
    rw [if_neg (by omega)]
    exact g1
end
end Go.Skm.Cue
