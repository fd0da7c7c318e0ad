/-
  The hull of the program; condition: the sorted list of vectors is what the sorting function gives.
-/
import Derived.Test.YthdegeidcjdkeaaCt6
namespace Go.Skm.Hull
open Go Go.Skm

/-- A vector without its height. -/
def flatV (v : V3) : V3 := ⟨v.x, v.y, 0⟩
/-- The list, in order. -/
def srt (l : List V3) : List V3 := l.mergeSort fun a b => decide (cmpV a b ≤ 0)
theorem srt_perm (l : List V3) : (srt l).Perm l := List.mergeSort_perm _ _
theorem srt_length (l : List V3) : (srt l).length = l.length := (srt_perm l).length_eq
theorem srt_mem (l : List V3) (v : V3) : v ∈ srt l ↔ v ∈ l := (srt_perm l).mem_iff
def SortOk (X : Ext) : Prop := ∀ l : List V3, 0 < l.length → l.length ≤ 10000 → run tab X 30 [.slice 100000 3 0 l.length, .p (.fn 31 [])] [.arr true kV (encL l)] = some ([], [.arr true kV (encL (srt l))])

/-- The different points of a list, in order, without heights. -/
def flatS (l : List V3) : List V3 := comp (srt (l.map flatV))
/-- The corners. -/
def hullC (l : List V3) : List V3 := if (flatS l).length = 1 then flatS l else (chainL (flatS l)).dropLast ++ (chainL (flatS l).reverse).dropLast
def hullF (l : List V3) : List V3 × Int := if l.length > 10000 then ([], 2) else if ptsB l = true then (if l.length = 0 then ([], 9) else (hullC l, 0)) else ([], 2)

theorem flatS_len (l : List V3) : (flatS l).length ≤ l.length := by
  refine Nat.le_trans (comp_len _) ?_
  rw [srt_length, List.length_map]; exact Nat.le_refl _
theorem flatS_mem {l : List V3} {v : V3} : v ∈ flatS l ↔ ∃ u ∈ l, flatV u = v := by
  unfold flatS
  rw [comp_mem, srt_mem, List.mem_map]
theorem flatS_ne {l : List V3} (h : l ≠ []) : flatS l ≠ [] := by
  refine comp_ne fun e => ?_
  have := congrArg List.length e
  rw [srt_length, List.length_map] at this
  cases l with
  | nil => exact h rfl
  | cons a r => simp at this
theorem ptsB_bd {l : List V3} : ptsB l = true ↔ ∀ v ∈ l, Bd 1048576 v := by
  unfold ptsB
  rw [List.all_eq_true]
  exact ⟨fun h v hv => inM_bd.1 (h v hv), fun h v hv => inM_bd.2 (h v hv)⟩
theorem flatS_bd {l : List V3} (h : ∀ v ∈ l, Bd 1048576 v) : ∀ v ∈ flatS l, Bd 1048576 v := by
  intro v hv
  obtain ⟨u, hu, rfl⟩ := flatS_mem.1 hv
  have := h u hu
  exact ⟨this.1, this.2.1, by simp [flatV]⟩
theorem chainR_mem : ∀ (l s : List V3) (v : V3), v ∈ chainR s l → v ∈ s ∨ v ∈ l
  | [], s, v, h => Or.inl h
  | p :: l, s, v, h => by
    have := chainR_mem l (p :: popS p s) v h
    rcases this with h1 | h1
    · rcases List.mem_cons.1 h1 with rfl | h2
      · simp
      · exact Or.inl (popS_sub p s v h2)
    · exact Or.inr (List.mem_cons_of_mem _ h1)
theorem chainR_len : ∀ (l s : List V3), (chainR s l).length ≤ s.length + l.length
  | [], s => by simp [chainR]
  | p :: l, s => by
    have h1 := chainR_len l (p :: popS p s)
    have h2 := popS_len p s
    have e : chainR s (p :: l) = chainR (p :: popS p s) l := rfl
    rw [e]
    simp only [List.length_cons] at h1 ⊢
    omega
theorem chainR_ne : ∀ (l s : List V3), s ≠ [] ∨ l ≠ [] → chainR s l ≠ []
  | [], s, h => by rcases h with h | h; exact h; exact absurd rfl h
  | p :: l, s, h => chainR_ne l (p :: popS p s) (Or.inl (by simp))
theorem chainL_ne {l : List V3} (h : l ≠ []) : chainL l ≠ [] := by
  unfold chainL
  intro e
  exact chainR_ne l [] (Or.inr h) (by simpa using e)
theorem chainL_len (l : List V3) : (chainL l).length ≤ l.length := by
  unfold chainL
  rw [List.length_reverse]
  simpa using chainR_len l []
theorem chainL_mem {l : List V3} {v : V3} (h : v ∈ chainL l) : v ∈ l := by
  unfold chainL at h
  rcases chainR_mem l [] v (by simpa using h) with h | h
  · simp at h
  · exact h
theorem take_dropLast {l : List V3} : l.take (l.length - 1) = l.dropLast := by rw [List.dropLast_eq_take]

section
variable (X : Ext) (hX : ∀ f, f ≠ 30 → X f = none) (hS : SortOk X)
include hX hS

theorem c10 (l : List V3) : run tab X 10 [.p (.list true kV (encL l))] [] = some ([.fresh true kV (encL (hullF l).1), .p (.int .i64 (hullF l).2)], []) := by
  refine run_of (hX _ (by decide)) ?_
  rw [e10]
  simp only [condD, condA, encL_length]
  by_cases hlen : l.length > 10000
  · rw [if_pos (by omega)]
    simp only [hullF, if_pos hlen]; rfl
  rw [if_neg (by omega), if_pos (by omega), if_pos (by omega), if_pos (by omega)]
  simp only [encV_mk, encL_replicate, Int.toNat_natCast]
  have key : ∀ k i : Nat, i + k = l.length → (∀ v ∈ l.take i, inM 1048576 v = true) → ∀ ob : List V3, ob.length = l.length → ob.take i = (l.take i).map flatV →
      L tab (run tab X) 10 [] [[1, 1, 1, 0, 1, 0]] (S10_111010 0 l.length (encL l) (l.length : Int) (i : Int) (encL ob)) = some ([.fresh true kV (encL (hullF l).1), .p (.int .i64 (hullF l).2)], []) := by
    intro k
    induction k with
    | zero =>
      intro i hi hin ob hob ht
      refine L_of ?_
      rw [e10_111010]
      simp only [condD, condA, condE, encL_length]
      rw [if_neg (by omega)]
      have hi' : i = l.length := by omega
      subst hi'
      rw [List.take_of_length_le (Nat.le_refl _)] at hin ht
      rw [List.take_of_length_le (by omega)] at ht
      have hpts : ptsB l = true := List.all_eq_true.2 hin
      have hF : hullF l = if l.length = 0 then ([], 9) else (hullC l, 0) := by
        unfold hullF
        rw [if_neg hlen, if_pos hpts]
      by_cases h0 : l.length = 0
      · rw [if_pos (by omega), hF, if_pos h0]; rfl
      rw [if_neg (by omega), hF, if_neg h0]
      have e1 : run tab X 30 [.slice 100000 3 0 l.length, .p (.fn 31 [])] [.arr true kV (encL ob)] = some ([], [.arr true kV (encL (srt ob))]) := by
        have := hS ob (by omega) (by omega)
        rwa [hob] at this
      obtain ⟨u, e2⟩ := c32 X hX (srt ob) (by rw [srt_length]; omega)
      rw [srt_length, hob] at e2
      simp only [e1, Option.bind_some, List.headD_cons, xs_arr]
      simp only [e2, Option.bind_some, List.headD_cons, xs_arr, sOff_slice, sLen_slice]
      have hfs : comp (srt ob) = flatS l := by rw [ht]; rfl
      rw [hfs]
      have hbd := flatS_bd (ptsB_bd.1 hpts)
      have hl2 := flatS_len l
      have hne : flatS l ≠ [] := flatS_ne (by intro e; rw [e] at h0; exact h0 rfl)
      have et : ∀ w : List V3, List.take (w.length) (List.drop 0 (encL (w ++ u))) = encL w := by
        intro w; rw [List.drop_zero, encL_take]; simp
      change (if (((flatS l).length : Nat) : Int) = 1 then _ else _) = _
      by_cases h1 : (flatS l).length = 1
      · rw [if_pos (by omega)]
        simp only [hullC, if_pos h1]
        have := et (flatS l)
        rw [this]
      · rw [if_neg (by omega)]
        have c1 := c33 X hX (flatS l) (by omega) (fun v hv => (hbd v hv).mono (by decide))
        have c2 := c34 X hX (flatS l) u (by omega)
        have c3 := c33 X hX (flatS l).reverse (by rw [List.length_reverse]; omega) (fun v hv => (hbd v (by simpa using hv)).mono (by decide))
        have et2 := et (flatS l).reverse
        rw [List.length_reverse] at et2
        simp only [et, c1, Option.bind_some, c2, List.headD_cons, xs_arr, et2, c3, freshList_fresh, encL_length]
        have n1 : 0 < (chainL (flatS l)).length := List.length_pos_iff.2 (chainL_ne hne)
        have n2 : 0 < (chainL (flatS l).reverse).length := List.length_pos_iff.2 (chainL_ne (by simpa using hne))
        have n3 := chainL_len (flatS l)
        have n4 := chainL_len (flatS l).reverse
        rw [List.length_reverse] at n4
        simp only [wrap_pred n1 (by omega), wrap_pred n2 (by omega), Int.sub_zero, Int.toNat_natCast, Int.le_refl, if_true]
        rw [if_pos (by omega), if_pos (by omega), if_pos (by omega), if_pos (by omega), if_pos (by omega)]
        simp only [List.drop_zero, encL_take, take_dropLast, encL_append]
        rw [List.take_of_length_le (by simp)]
        simp only [hullC, if_neg h1]
    | succ k ih =>
      intro i hi hin ob hob ht
      refine L_of ?_
      rw [e10_111010]
      simp only [condD, condA, condO, encL_length, encL_x, encL_y, encL_z, Int.toNat_natCast, encV_mk]
      rw [if_pos (by omega), if_pos (by omega), if_pos (by omega)]
      have ev : (⟨(l.getD i default).x, (l.getD i default).y, (l.getD i default).z⟩ : V3) = l.getD i default := rfl
      rw [ev, c29 X hX]
      simp only [Option.bind_some, List.headD_cons, pv_p, toBool_bool]
      by_cases hb : inM 1048576 (l.getD i default) = true
      · rw [hb]
        simp only [cond_true]
        rw [if_pos (by omega), if_pos (by omega), wrap_nat (by omega), Nat.zero_add, encL_set]
        refine ih (i + 1) (by omega) ?_ _ (by simpa using hob) ?_
        · intro v hv
          rw [take_getD (by omega), List.mem_append, List.mem_singleton] at hv
          rcases hv with hv | rfl
          · exact hin v hv
          · exact hb
        · rw [take_getD (l := l) (by omega), List.map_append, ← ht, List.take_add_one, List.take_set_of_le (Nat.le_refl i), List.getElem?_set_self (by omega)]; rfl
      · have hb' : inM 1048576 (l.getD i default) = false := by simpa using hb
        rw [hb']
        simp only [cond_false]
        have hp : ptsB l ≠ true := by
          intro h
          exact hb (List.all_eq_true.1 h _ (by rw [List.getD_eq_getElem?_getD, List.getElem?_eq_getElem (by omega)]; exact List.getElem_mem _))
        simp only [hullF, if_neg hlen, if_neg hp]; rfl
  exact key l.length 0 (by omega) (by simp) _ (by simp) (by simp)
end
end Go.Skm.Hull
