/-
  The smallest cover by some points, by trying all choices; condition: few points.
-/
import Derived.Test.YtipkmkmngcjdbaaS14
namespace Go.Skm.Sct
open Go Go.Skm
def ndI (p : V3) : Int → List V3 → Int
  | n, [] => n
  | n, c :: cs => ndI p (if n < 0 ∨ d2 p c < n then d2 p c else n) cs
def cvV (l ch : List V3) : Int := l.foldl (fun n p => max n (ndI p (-1) ch)) 0
def bstF (G : Nat → Int) : Nat → Nat → Int → Int
  | 0, _, b => b
  | n + 1, i, b => bstF G n (i + 1) (if b < 0 ∨ G i < b then G i else b)
def cvF (l : List V3) : Nat → Nat → List V3 → Int
  | 0, _, ch => cvV l ch
  | m + 1, fr, ch => bstF (fun i => cvF l m (i + 1) (ch ++ [at_ l i])) (l.length - m - fr) fr (-1)
theorem ndI_mn (p : V3) : ∀ (cs : List V3) (n : Int), 0 ≤ n → ndI p n cs = mn n p cs
  | [], n, _ => rfl
  | c :: cs, n, h => by
    have := d2_nn p c
    rw [ndI, mn_cons]
    by_cases hc : d2 p c < n
    · rw [if_pos (.inr hc), ndI_mn p cs _ this, Int.min_eq_right (by omega)]
    · rw [if_neg (by omega), ndI_mn p cs _ h, Int.min_eq_left (by omega)]
theorem ndI_nr (p : V3) {ch : List V3} (h : ch ≠ []) : ndI p (-1) ch = nr p ch := by
  cases ch with
  | nil => exact absurd rfl h
  | cons c cs =>
    rw [ndI, if_pos (.inl (by omega)), ndI_mn p cs _ (d2_nn _ _)]; rfl
theorem foldl_max (f : V3 → Int) : ∀ (l : List V3) (n : Int), n ≤ l.foldl (fun n p => max n (f p)) n ∧ ∀ p ∈ l, f p ≤ l.foldl (fun n p => max n (f p)) n
  | [], n => ⟨Int.le_refl _, by simp⟩
  | a :: l, n => by
    obtain ⟨h1, h2⟩ := foldl_max f l (max n (f a))
    rw [List.foldl_cons]
    refine ⟨by omega, fun p hp => ?_⟩
    rcases List.mem_cons.1 hp with rfl | hp
    · omega
    · exact h2 p hp
theorem foldl_lt (f : V3 → Int) (m : Int) : ∀ (l : List V3) (n : Int), n < m → (∀ p ∈ l, f p < m) → l.foldl (fun n p => max n (f p)) n < m
  | [], n, h, _ => h
  | a :: l, n, h, h2 => by
    rw [List.foldl_cons]
    have := h2 a (by simp)
    exact foldl_lt f m l _ (by omega) fun p hp => h2 p (by simp [hp])
theorem cvV_nn (l ch : List V3) : 0 ≤ cvV l ch := (foldl_max _ l 0).1
theorem cvV_all {l ch : List V3} (h : ch ≠ []) {p : V3} (hp : p ∈ l) : nr p ch ≤ cvV l ch := by
  rw [← ndI_nr p h]
  exact (foldl_max _ l 0).2 p hp
theorem nd_lt {p : V3} (hp : pnt p = true) : ∀ {ch : List V3} {n : Int}, (∀ v ∈ ch, pnt v = true) → n < far → ndI p n ch < far
  | [], n, _, h => h
  | c :: cs, n, hc, h => by
    rw [ndI]
    have := d2_far hp (hc c (by simp))
    exact nd_lt hp (fun v hv => hc v (by simp [hv])) (by split <;> omega)
theorem cvV_lt {l ch : List V3} (hl : ∀ v ∈ l, pnt v = true) (hc : ∀ v ∈ ch, pnt v = true) : cvV l ch < far :=
  foldl_lt _ far l 0 (by decide) fun p hp => nd_lt (hl p hp) hc (by decide)
theorem bst_or (G : Nat → Int) : ∀ (n i : Nat) (b : Int), (∀ j, i ≤ j → j < i + n → 0 ≤ G j) → (bstF G n i b = b ∧ (0 ≤ b ∨ n = 0)) ∨ ∃ j, i ≤ j ∧ j < i + n ∧ bstF G n i b = G j
  | 0, i, b, _ => .inl ⟨rfl, .inr rfl⟩
  | n + 1, i, b, h => by
    have h0 := h i (by omega) (by omega)
    rw [bstF]
    rcases bst_or G n (i + 1) (if b < 0 ∨ G i < b then G i else b) fun j h1 h2 => h j (by omega) (by omega) with ⟨h1, h2⟩ | ⟨j, h1, h2, h3⟩
    · rw [h1]
      by_cases hb : b < 0 ∨ G i < b
      · rw [if_pos hb]; exact .inr ⟨i, by omega, by omega, rfl⟩
      · rw [if_neg hb]; exact .inl ⟨rfl, .inl (by omega)⟩
    · exact .inr ⟨j, by omega, by omega, h3⟩
theorem cv_spec {l : List V3} (hl : ∀ v ∈ l, pnt v = true) : ∀ (m fr : Nat) (ch : List V3), fr + m ≤ l.length → (∀ v ∈ ch, pnt v = true) → ∃ ch' : List V3, ch'.length = ch.length + m ∧ (∀ v ∈ ch', pnt v = true) ∧ cvF l m fr ch = cvV l ch'
  | 0, fr, ch, _, hc => ⟨ch, rfl, hc, rfl⟩
  | m + 1, fr, ch, h, hc => by
    have ih : ∀ i, fr ≤ i → i < fr + (l.length - m - fr) → ∃ ch' : List V3, ch'.length = ch.length + (m + 1) ∧ (∀ v ∈ ch', pnt v = true) ∧ cvF l m (i + 1) (ch ++ [at_ l i]) = cvV l ch' := by
      intro i h1 h2
      obtain ⟨ch', a, b, c⟩ := cv_spec hl m (i + 1) (ch ++ [at_ l i]) (by omega) fun v hv => by
        rcases List.mem_append.1 hv with hv | hv
        · exact hc v hv
        · rw [List.mem_singleton] at hv
          rw [hv]; exact hl _ (at_mem (by omega))
      exact ⟨ch', by rw [a, List.length_append, List.length_singleton]; omega, b, c⟩
    rw [cvF]
    rcases bst_or (fun i => cvF l m (i + 1) (ch ++ [at_ l i])) (l.length - m - fr) fr (-1) fun j h1 h2 => by
      obtain ⟨ch', _, _, c⟩ := ih j h1 h2
      show 0 ≤ cvF l m (j + 1) (ch ++ [at_ l j])
      rw [c]; exact cvV_nn _ _ with ⟨h1, h2⟩ | ⟨j, h1, h2, h3⟩
    · omega
    · rw [h3]; exact ih j h1 h2
section
variable (X : Ext) (hX : Mine X)
include hX
theorem l22n (p : V3) (hp : pnt p = true) (l ch : List V3) (hch : ch.length ≤ 1000) (hc : ∀ v ∈ ch, pnt v = true) (n0 i0 : Int) (r : List AV × List Blk) : ∀ (n t : Nat) (near : Int), t + n = ch.length →
    L tab (run tab X) 22 [] [.lp [1, 0, 1, 0, 1, 0, 1, 0]] (S22_10101010 (encL ch) (max n0 (ndI p near (ch.drop t))) (encL l) (((encL l).length : Nat) : Int) (IntKind.i64.wrap (i0 + 1))) = some r →
    L tab (run tab X) 22 [] [.lp [1, 0, 1, 0, 1, 0, 1, 0], .lp [1, 1, 0, 0, 1, 1, 0, 1, 0]] (S22_10101010_110011010 (encL ch) n0 near (encL l) (((encL l).length : Nat) : Int) i0 (encL ch) (((encL ch).length : Nat) : Int) t p.x p.y p.z) = some r := by
  intro n
  induction n with
  | zero =>
    intro t near ht h
    rw [List.drop_eq_nil_of_le (by omega), ndI] at h
    refine L_of ?_
    rw [e22_10101010_110011010]
    refine condNP (by rw [encL_length]; omega) ?_
    rw [goMax_eq]; exact h
  | succ n ih =>
    intro t near ht h
    have hlt : t < ch.length := by omega
    have w1 : IntKind.i64.wrap ((t : Int) + 1) = ((t + 1 : Nat) : Int) := by rw [wrap_eq (by omega) (by omega)]; omega
    rw [drop_at hlt, ndI] at h
    have h := ih (t + 1) _ (by omega) h
    have c := c21 X hX p (at_ ch t) hp (hc _ (at_mem hlt))
    refine L_of ?_
    rw [e22_10101010_110011010, w1]
    simp only [condA, Int.toNat_natCast, encL_x, encL_y, encL_z]
    refine condP (by rw [encL_length]; omega) (condP (by omega) (condP (by rw [encL_length]; omega) (bindS c ?_)))
    by_cases h1 : near < 0
    · rw [if_pos (.inl h1)] at h
      exact condP h1 h
    · refine condNP h1 ?_
      by_cases h2 : d2 p (at_ ch t) < near
      · rw [if_pos (.inr h2)] at h
        exact condP h2 h
      · rw [if_neg (by omega)] at h
        exact condNP h2 h
theorem l22v (l ch : List V3) (hl : l.length ≤ 1000) (hla : ∀ v ∈ l, pnt v = true) (hch : ch.length ≤ 1000) (hc : ∀ v ∈ ch, pnt v = true) : ∀ (n i : Nat) (n0 : Int), i + n = l.length →
    L tab (run tab X) 22 [] [.lp [1, 0, 1, 0, 1, 0, 1, 0]] (S22_10101010 (encL ch) n0 (encL l) (((encL l).length : Nat) : Int) i) = some ([.p (.int .i64 ((l.drop i).foldl (fun n p => max n (ndI p (-1) ch)) n0))], []) := by
  intro n
  induction n with
  | zero =>
    intro i n0 hi
    refine L_of ?_
    rw [e22_10101010, List.drop_eq_nil_of_le (show l.length ≤ i by omega)]
    exact condNP (by rw [encL_length]; omega) rfl
  | succ n ih =>
    intro i n0 hi
    have hlt : i < l.length := by omega
    have w1 : IntKind.i64.wrap ((i : Int) + 1) = ((i + 1 : Nat) : Int) := by rw [wrap_eq (by omega) (by omega)]; omega
    have h := ih (i + 1) (max n0 (ndI (at_ l i) (-1) ch)) (by omega)
    rw [drop_at hlt, List.foldl_cons]
    refine L_of ?_
    rw [e22_10101010]
    simp only [condA, Int.toNat_natCast, encL_x, encL_y, encL_z]
    refine condP (by rw [encL_length]; omega) (condP (by omega) (condP (by rw [encL_length]; omega) ?_))
    refine l22n X hX (at_ l i) (hla _ (at_mem hlt)) l ch hch hc n0 i _ ch.length 0 (-1) (by omega) ?_
    rw [List.drop_zero, w1]
    exact h
theorem snoc_arg (ch : List V3) (v : V3) : ((((encL ch).drop 0).take (encL ch).length ++ [PV.agg [.int .i64 v.x, .int .i64 v.y, .int .i64 v.z]]).drop 0).take ((encL ch).length + 1) = encL (ch ++ [v]) := by
  have _ := hX
  have e : (encL ch).length + 1 = (encL (ch ++ [v])).length := by simp
  have e0 : ((encL ch).drop 0).take (encL ch).length = encL ch := by rw [List.drop_zero, List.take_of_length_le (Nat.le_refl _)]
  rw [e, e0, List.drop_zero]
  have : encL ch ++ [PV.agg [.int .i64 v.x, .int .i64 v.y, .int .i64 v.z]] = encL (ch ++ [v]) := by
    show encL ch ++ [encV v] = _
    rw [encL_one, encL_append]
  rw [this, List.take_of_length_le (Nat.le_refl _)]
theorem l22b (l ch : List V3) (hl : l.length ≤ 1000) (m : Nat) (hm : m ≤ 1000) (hch : ch.length ≤ 1000) (G : Nat → Int)
    (hG : ∀ i, i + m < l.length → run tab X 22 [.p (.list true kV (encL l)), .p (.int .i64 m), .p (.int .i64 ((i + 1 : Nat) : Int)), .p (.list true kV (encL (ch ++ [at_ l i])))] [] = some ([.p (.int .i64 (G i))], [])) : ∀ (n i : Nat) (b : Int), i ≤ l.length → n = l.length - m - i →
    L tab (run tab X) 22 [] [.lp [1, 1, 1, 0, 1, 0]] (S22_111010 (encL l) ((m + 1 : Nat) : Int) (encL ch) b i) = some ([.p (.int .i64 (bstF G n i b))], []) := by
  intro n
  induction n with
  | zero =>
    intro i b hi hn
    have w : IntKind.i64.wrap ((i : Int) + ((m + 1 : Nat) : Int)) = ((i + m + 1 : Nat) : Int) := by rw [wrap_eq (by omega) (by omega)]; omega
    refine L_of ?_
    rw [e22_111010, w]
    exact condNP (by rw [encL_length]; omega) rfl
  | succ n ih =>
    intro i b hi hn
    have w : IntKind.i64.wrap ((i : Int) + ((m + 1 : Nat) : Int)) = ((i + m + 1 : Nat) : Int) := by rw [wrap_eq (by omega) (by omega)]; omega
    have w1 : IntKind.i64.wrap ((i : Int) + 1) = ((i + 1 : Nat) : Int) := by rw [wrap_eq (by omega) (by omega)]; omega
    have w2 : IntKind.i64.wrap (((m + 1 : Nat) : Int) - 1) = (m : Int) := by rw [wrap_eq (by omega) (by omega)]; omega
    have hlt : i < l.length := by omega
    have h := ih (i + 1) (if b < 0 ∨ G i < b then G i else b) (by omega) (by omega)
    rw [bstF]
    refine L_of ?_
    rw [e22_111010, w, w1, w2]
    simp only [condA, Int.toNat_natCast, encL_x, encL_y, encL_z]
    refine condP (by rw [encL_length]; omega) (condP (p := (encL ch).length ≤ 2147483648) (by rw [encL_length]; omega) (condP (by omega) (condP (by rw [encL_length]; omega) (condP (p := (encL ch).length + 1 ≤ 2147483648) (by rw [encL_length]; omega) ?_))))
    have e := snoc_arg X hX ch (at_ l i)
    refine bindS (x := ([.p (.int .i64 (G i))], [])) ?_ ?_
    · rw [← hG i (by omega), ← e]; rfl
    · by_cases h1 : b < 0
      · rw [if_pos (.inl h1)] at h ⊢
        exact condP h1 h
      · refine condNP h1 ?_
        by_cases h2 : G i < b
        · rw [if_pos (.inr h2)] at h ⊢
          exact condP h2 h
        · rw [if_neg (by omega)] at h ⊢
          exact condNP h2 h
theorem c22 (l : List V3) (hl : l.length ≤ 900) (hla : ∀ v ∈ l, pnt v = true) : ∀ (m fr : Nat) (ch : List V3), fr ≤ l.length → m ≤ 900 → ch.length + m ≤ 1000 → (∀ v ∈ ch, pnt v = true) →
    run tab X 22 [.p (.list true kV (encL l)), .p (.int .i64 m), .p (.int .i64 fr), .p (.list true kV (encL ch))] [] = some ([.p (.int .i64 (cvF l m fr ch))], [])
  | 0, fr, ch, hf, hm, hn, hc => by
    refine run_of (hX _ rfl) ?_
    rw [e22]
    refine condT rfl ?_
    exact l22v X hX l ch (by omega) hla (by omega) hc l.length 0 0 (by omega)
  | m + 1, fr, ch, hf, hm, hn, hc => by
    refine run_of (hX _ rfl) ?_
    rw [e22]
    refine condF (by rw [beq_eq_false_iff_ne]; omega) ?_
    rw [cvF]
    exact l22b X hX l ch (by omega) m (by omega) (by omega) _ (fun i hi => c22 l hl hla m (i + 1) (ch ++ [at_ l i]) (by omega) (by omega) (by rw [List.length_append, List.length_singleton]; omega) fun v hv => by
      rcases List.mem_append.1 hv with hv | hv
      · exact hc v hv
      · rw [List.mem_singleton] at hv
        rw [hv]; exact hla _ (at_mem (by omega))) (l.length - m - fr) fr (-1) hf rfl
end
end Go.Skm.Sct
