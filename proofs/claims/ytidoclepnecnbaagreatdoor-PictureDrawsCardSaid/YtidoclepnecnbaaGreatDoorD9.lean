/-
  The library's stable sort of spots by falling depth; condition: at most forty spots, their indices rising.
-/
import Derived.Test.YtidoclepnecnbaaGreatDoorD8
namespace Go.Skm.Drw
open Go Go.Skm
def IX (l : List Sp) : Prop := l.Pairwise fun a b => a.i < b.i
section
variable (X : Ext) (hX : Mine X)
include hX
theorem c71_in (D0 P S : List Sp) (N : Nat) (hN : N ≤ 100000) (u : Sp) (b i : Nat) (hi : i + 1 ≤ 200000) (hu : 0 ≤ u.z ∧ u.z ≤ 2000000000) : ∀ (ra B : List Sp), (P ++ ra.reverse ++ u :: (B ++ S)).length = N → SL (ra.reverse ++ B) → ZB (ra.reverse ++ B) → (∀ v ∈ ra.reverse ++ B, v.i < u.i) → (∀ v ∈ B, lt u v) →
    ∃ W, SL W ∧ W.Perm (u :: (ra.reverse ++ B)) ∧ ∀ x, L tab (run tab X) 71 (rowB D0) [.lp [1, 0]] (S71_10 0 N ((P.length : Nat) : Int) ((b : Nat) : Int) ((i + 1 : Nat) : Int) (encT (P ++ W ++ S))) = some x →
      L tab (run tab X) 71 (rowB D0) [.lp [1, 0], .lp [1, 0, 0, 1, 0]] (S71_10_10010 0 N ((P.length : Nat) : Int) ((b : Nat) : Int) ((i : Nat) : Int) ((P.length + ra.length : Nat) : Int) (encT (P ++ ra.reverse ++ u :: (B ++ S)))) = some x := by
  intro ra
  have wi : IntKind.i64.wrap (((i : Nat) : Int) + 1) = ((i + 1 : Nat) : Int) := by rw [wrap_eq (by omega) (by omega)]; omega
  induction ra with
  | nil =>
    intro B h1 h2 h3 h4 h5
    refine ⟨u :: B, List.pairwise_cons.mpr ⟨h5, h2⟩, .refl _, fun x hx => L_of ?_⟩
    rw [e71_10_10010, wi]
    refine condNP (show ¬ ((P.length + ([] : List Sp).length : Nat) : Int) > ((P.length : Nat) : Int) by simp only [List.length_nil]; omega) ?_
    rw [← hx]
    simp
  | cons v ra ih =>
    intro B h1 h2 h3 h4 h5
    have eR : (v :: ra).reverse = ra.reverse ++ [v] := by simp
    rw [eR] at h1 h2 h3 h4
    have h1' := h1
    simp only [List.length_append, List.length_cons, List.length_nil, List.length_reverse] at h1'
    have gv : (P ++ (v :: ra).reverse ++ u :: (B ++ S)).getD (P.length + ra.length) default = v := by
      have := getD_mid (P ++ ra.reverse) [v] (u :: (B ++ S)) (i := 0) (by simp)
      simp only [Nat.add_zero, List.length_append, List.length_reverse] at this
      rw [show P ++ (v :: ra).reverse ++ u :: (B ++ S) = P ++ ra.reverse ++ [v] ++ u :: (B ++ S) by simp, this]
      rfl
    have gu : (P ++ (v :: ra).reverse ++ u :: (B ++ S)).getD (P.length + (v :: ra).length) default = u := by
      have := getD_mid (P ++ (v :: ra).reverse) [u] (B ++ S) (i := 0) (by simp)
      simp only [Nat.add_zero, List.length_append, List.length_reverse] at this
      rw [show P ++ (v :: ra).reverse ++ u :: (B ++ S) = P ++ (v :: ra).reverse ++ [u] ++ (B ++ S) by simp, this]
      rfl
    have lB : (P ++ (v :: ra).reverse ++ u :: (B ++ S)).length = N := by rw [eR]; exact h1
    have zv := h3 v (by simp)
    have iv := h4 v (by simp)
    have lc : (v :: ra).length = ra.length + 1 := rfl
    have w1 : IntKind.i64.wrap (((P.length + (v :: ra).length : Nat) : Int) - 1) = ((P.length + ra.length : Nat) : Int) := by rw [lc, wrap_eq (by omega) (by omega)]; omega
    have hc := c32g X hX (P ++ (v :: ra).reverse ++ u :: (B ++ S)) (i := P.length + (v :: ra).length) (j := P.length + ra.length) (by rw [lc]; omega) (by omega)
    rw [gu, gv, wrap_eq (by omega) (by omega)] at hc
    have hp := List.pairwise_append.mp h2
    by_cases hlt : v.z - u.z < 0
    · have eR2 : ra.reverse ++ [v] ++ B = ra.reverse ++ (v :: B) := by simp
      obtain ⟨W, a1, a2, a3⟩ := ih (v :: B) (by simp only [List.length_append, List.length_cons, List.length_reverse] at h1 ⊢; omega) (by rw [← eR2]; exact h2) (by rw [← eR2]; exact h3) (by rw [← eR2]; exact h4) (by
        intro w hw
        rcases List.mem_cons.mp hw with rfl | hw
        · exact .inl (by omega)
        · exact h5 w hw)
      refine ⟨W, a1, by rw [eR, eR2]; exact a2, fun x hx => L_of ?_⟩
      have hs := encT_swap' (P ++ ra.reverse) [] (B ++ S) v u (i := 0 + (P.length + ra.length)) (j := 0 + (P.length + (v :: ra).length)) (by simp) (by rw [lc]; simp; omega)
      have eq1 : P ++ (v :: ra).reverse ++ u :: (B ++ S) = P ++ ra.reverse ++ v :: ([] ++ u :: (B ++ S)) := by simp
      rw [e71_10_10010, w1]
      refine condP (show ((P.length + (v :: ra).length : Nat) : Int) > ((P.length : Nat) : Int) by rw [lc]; omega) (condT (in_bd (by rw [lc]; omega)) (condT (in_bd (by omega)) (bindS hc ?_)))
      refine condP (show v.z - u.z < 0 from hlt) (condT (in_bd (by omega)) (condT (in_bd (by rw [lc]; omega)) (condT (in_bd (by rw [lc]; omega)) (condT (in_bd (by omega)) ?_))))
      rw [eq1]
      refine Eq.trans (congrArg (fun T => L tab (run tab X) 71 (rowB D0) [.lp [1, 0], .lp [1, 0, 0, 1, 0]] (S71_10_10010 0 N ((P.length : Nat) : Int) ((b : Nat) : Int) ((i : Nat) : Int) ((P.length + ra.length : Nat) : Int) T)) hs) ?_
      exact a3 x hx
    · refine ⟨ra.reverse ++ [v] ++ u :: B, ?_, ?_, fun x hx => L_of ?_⟩
      · refine List.pairwise_append.mpr ⟨hp.1, List.pairwise_cons.mpr ⟨h5, hp.2.1⟩, ?_⟩
        intro w hw y hy
        rcases List.mem_cons.mp hy with rfl | hy
        · have iw := h4 w (List.mem_append_left _ hw)
          have zw : v.z ≤ w.z := by
            rcases List.mem_append.mp hw with hw | hw
            · rcases (List.pairwise_append.mp hp.1).2.2 w hw v (by simp) with h | h <;> omega
            · rw [List.mem_singleton.mp hw]; omega
          unfold lt
          omega
        · exact hp.2.2 w hw y hy
      · rw [eR]
        exact List.perm_middle
      · rw [e71_10_10010, w1, wi]
        refine condP (show ((P.length + (v :: ra).length : Nat) : Int) > ((P.length : Nat) : Int) by rw [lc]; omega) (condT (in_bd (by rw [lc]; omega)) (condT (in_bd (by omega)) (bindS hc ?_)))
        refine condNP (show ¬ v.z - u.z < 0 from hlt) ?_
        rw [← hx]
        simp
theorem c71_loop (D0 P S : List Sp) (N : Nat) (hN : N ≤ 100000) (b : Nat) : ∀ (U2 W1 : List Sp), (P ++ (W1 ++ U2) ++ S).length = N → P.length + W1.length + U2.length = b → SL W1 → ZB (W1 ++ U2) → (∀ v ∈ W1, ∀ u ∈ U2, v.i < u.i) → IX U2 →
    ∃ W, SL W ∧ W.Perm (W1 ++ U2) ∧ L tab (run tab X) 71 (rowB D0) [.lp [1, 0]] (S71_10 0 N ((P.length : Nat) : Int) ((b : Nat) : Int) ((P.length + W1.length : Nat) : Int) (encT (P ++ (W1 ++ U2) ++ S))) = some ([], rowB (P ++ W ++ S)) := by
  intro U2
  induction U2 with
  | nil =>
    intro W1 h1 h2 h3 h4 h5 h6
    refine ⟨W1, h3, by simp, L_of ?_⟩
    rw [e71_10]
    refine condNP (show ¬ ((P.length + W1.length : Nat) : Int) < ((b : Nat) : Int) by simp only [List.length_nil] at h2; omega) ?_
    simp
  | cons u U2 ih =>
    intro W1 h1 h2 h3 h4 h5 h6
    have h1' := h1
    simp only [List.length_append, List.length_cons] at h1' h2
    have h6' := List.pairwise_cons.mp h6
    have eW : W1.reverse.reverse = W1 := List.reverse_reverse _
    obtain ⟨W', a1, a2, a3⟩ := c71_in X hX D0 P (U2 ++ S) N hN u b (P.length + W1.length) (by omega) (h4 u (by simp)) W1.reverse [] (by rw [eW]; simp only [List.length_append, List.length_cons, List.length_nil]; omega) (by rw [eW]; simpa using h3) (by
      rw [eW]
      intro s hs
      exact h4 s (by simp at hs ⊢; exact .inl hs)) (by
      rw [eW]
      intro v hv
      exact h5 v (by simpa using hv) u (by simp)) (by intro v hv; exact absurd hv (List.not_mem_nil))
    rw [eW, List.append_nil] at a2
    rw [eW, List.length_reverse] at a3
    have lW : W'.length = W1.length + 1 := by rw [a2.length_eq]; rfl
    obtain ⟨W, b1, b2, b3⟩ := ih W' (by simp only [List.length_append]; omega) (by omega) a1 (by
      intro s hs
      rcases List.mem_append.mp hs with hs | hs
      · rcases List.mem_cons.mp (a2.mem_iff.mp hs) with rfl | hs
        · exact h4 _ (by simp)
        · exact h4 s (List.mem_append_left _ hs)
      · exact h4 s (by simp [hs])) (by
      intro v hv w hw
      rcases List.mem_cons.mp (a2.mem_iff.mp hv) with rfl | hv
      · exact h6'.1 w hw
      · exact h5 v hv w (by simp [hw])) h6'.2
    refine ⟨W, b1, ?_, L_of ?_⟩
    · refine b2.trans ((a2.append_right U2).trans ?_)
      exact List.perm_middle.symm
    · rw [e71_10]
      refine condP (show ((P.length + W1.length : Nat) : Int) < ((b : Nat) : Int) by omega) ?_
      have := a3 _ (by
        rw [show P ++ W' ++ (U2 ++ S) = P ++ (W' ++ U2) ++ S by simp, show P.length + W1.length + 1 = P.length + W'.length by omega]
        exact b3)
      rw [show P ++ (W1 ++ u :: U2) ++ S = P ++ W1 ++ u :: ([] ++ (U2 ++ S)) by simp]
      exact this
theorem c71 (P U S : List Sp) (N : Nat) (h : (P ++ U ++ S).length = N) (hN : N ≤ 100000) (hz : ZB U) (hi : IX U) (a b : Int) (ha : a = (P.length : Nat)) (hb : b = (P.length + U.length : Nat)) :
    ∃ W, SL W ∧ W.Perm U ∧ run tab X 71 [.slice 100000 5 0 N, .p (.int .i64 a), .p (.int .i64 b), .p (.fn 32 [])] (rowB (P ++ U ++ S)) = some ([], rowB (P ++ W ++ S)) := by
  subst ha hb
  have h' := h
  simp only [List.length_append] at h'
  have w1 : IntKind.i64.wrap (((P.length : Nat) : Int) + 1) = ((P.length + 1 : Nat) : Int) := by rw [wrap_eq (by omega) (by omega)]; omega
  match U, hi with
  | [], _ =>
    refine ⟨[], List.Pairwise.nil, .refl _, run_of (hX _ rfl) ?_⟩
    rw [e71, w1]
    refine L_of ?_
    rw [e71_10]
    exact condNP (show ¬ ((P.length + 1 : Nat) : Int) < ((P.length + ([] : List Sp).length : Nat) : Int) by simp only [List.length_nil]; omega) rfl
  | u :: U2, hi =>
    have hi' := List.pairwise_cons.mp hi
    obtain ⟨W, a1, a2, a3⟩ := c71_loop X hX (P ++ u :: U2 ++ S) P S N hN (P.length + (u :: U2).length) U2 [u] (by simpa using h) (by simp; omega) (List.pairwise_singleton _ _) hz (by
      intro v hv w hw
      rw [List.mem_singleton.mp hv]
      exact hi'.1 w hw) hi'.2
    refine ⟨W, a1, a2, run_of (hX _ rfl) ?_⟩
    rw [e71, w1]
    exact a3
theorem c55_end (D0 B : List Sp) (N : Nat) (bs n : Int) (h : ¬ bs < n) :
    L tab (run tab X) 55 (rowB D0) [.lp [1, 1, 1, 1, 0]] (S55_11110 0 N n bs (encT B)) = some ([], rowB B) := by
  have _ := hX
  refine L_of ?_
  rw [e55_11110]
  exact condNP h rfl
theorem c55 (U : List Sp) (N : Nat) (h : U.length = N) (hN : N ≤ 40) (hz : ZB U) (hi : IX U) :
    ∃ W, SL W ∧ W.Perm U ∧ run tab X 55 [.slice 100000 5 0 N, .p (.int .i64 (N : Int)), .p (.fn 32 [])] (rowB U) = some ([], rowB W) := by
  by_cases h20 : N < 20
  · obtain ⟨W, a1, a2, a3⟩ := c71 X hX [] U [] N (by simpa using h) (by omega) hz hi 0 (N : Int) rfl (by simp [h])
    simp only [List.nil_append, List.append_nil] at a3
    refine ⟨W, a1, a2, run_of (hX _ rfl) ?_⟩
    rw [e55]
    refine L_of ?_
    rw [e55_1100]
    refine condNP (show ¬ (20 : Int) ≤ (N : Int) by omega) (bindS a3 ?_)
    exact c55_end X hX _ _ N 20 N (by omega)
  · have eU : U.take 20 ++ U.drop 20 = U := List.take_append_drop _ _
    have l1 : (U.take 20).length = 20 := by rw [List.length_take]; omega
    have l2 : (U.drop 20).length = N - 20 := by rw [List.length_drop]; omega
    generalize U.take 20 = U1 at *
    generalize U.drop 20 = U2 at *
    subst eU
    have hi' := List.pairwise_append.mp hi
    have hz1 : ZB U1 := fun s hs => hz s (List.mem_append_left _ hs)
    have hz2 : ZB U2 := fun s hs => hz s (List.mem_append_right _ hs)
    obtain ⟨W1, a1, a2, a3⟩ := c71 X hX [] U1 U2 N (by simpa using h) (by omega) hz1 hi'.1 0 20 rfl (by simp [l1])
    simp only [List.nil_append] at a3
    have lW1 : W1.length = 20 := by rw [a2.length_eq, l1]
    have w20 : IntKind.i64.wrap (20 + 20) = 40 := by decide
    by_cases h40 : N < 40
    · obtain ⟨W2, b1, b2, b3⟩ := c71 X hX W1 U2 [] N (by simp; omega) (by omega) hz2 hi'.2.1 20 (N : Int) (by omega) (by omega)
      simp only [List.append_nil] at b3
      have lW2 : W2.length = N - 20 := by rw [b2.length_eq, l2]
      by_cases hn : N = 20
      · refine ⟨W1 ++ W2, ?_, a2.append b2, run_of (hX _ rfl) ?_⟩
        · have : W2 = [] := List.eq_nil_of_length_eq_zero (by omega)
          rw [this, List.append_nil]
          exact a1
        · rw [e55]
          refine L_of ?_
          rw [e55_1100]
          refine condP (show (20 : Int) ≤ (N : Int) by omega) (bindS a3 ?_)
          rw [w20]
          refine L_of ?_
          rw [e55_1100]
          refine condNP (show ¬ (40 : Int) ≤ (N : Int) by omega) (bindS b3 ?_)
          exact c55_end X hX _ _ N 20 N (by omega)
      · obtain ⟨W, c1, c2, c3⟩ := c72 X hX N [] W1 W2 [] (by omega) (by omega) (by simp; omega) (by omega) (by
          intro s hs
          rcases List.mem_append.mp hs with hs | hs
          · exact hz1 s (a2.mem_iff.mp hs)
          · exact hz2 s (b2.mem_iff.mp hs)) a1 b1 (fun u hu v hv => hi'.2.2 u (a2.mem_iff.mp hu) v (b2.mem_iff.mp hv))
        simp only [List.nil_append, List.append_nil, List.length_nil, Nat.zero_add, lW1, lW2] at c3
        rw [show 20 + (N - 20) = N by omega] at c3
        refine ⟨W, c1, c2.trans (a2.append b2), run_of (hX _ rfl) ?_⟩
        rw [e55]
        refine L_of ?_
        rw [e55_1100]
        refine condP (show (20 : Int) ≤ (N : Int) by omega) (bindS a3 ?_)
        rw [w20]
        refine L_of ?_
        rw [e55_1100]
        refine condNP (show ¬ (40 : Int) ≤ (N : Int) by omega) (bindS b3 ?_)
        refine L_of ?_
        rw [e55_11110]
        refine condP (show (20 : Int) < (N : Int) by omega) ?_
        refine L_of ?_
        rw [e55_11110_10100, show IntKind.i64.wrap (2 * 20) = 40 by decide, show IntKind.i64.wrap (0 + 20) = 20 by decide, show IntKind.i64.wrap (20 * 2) = 40 by decide]
        refine condNP (show ¬ (40 : Int) ≤ (N : Int) by omega) (condP (show (20 : Int) < (N : Int) by omega) (bindS c3 ?_))
        exact c55_end X hX _ _ N 40 N (by omega)
    · have hN40 : N = 40 := by omega
      subst hN40
      obtain ⟨W2, b1, b2, b3⟩ := c71 X hX W1 U2 [] 40 (by simp; omega) (by omega) hz2 hi'.2.1 20 40 (by omega) (by omega)
      simp only [List.append_nil] at b3
      have lW2 : W2.length = 20 := by rw [b2.length_eq, l2]
      obtain ⟨W3, d1, d2, d3⟩ := c71 X hX (W1 ++ W2) [] [] 40 (by simp; omega) (by omega) (by intro s hs; exact absurd hs (List.not_mem_nil)) List.Pairwise.nil 40 40 (by simp; omega) (by simp; omega)
      have e3 : W3 = [] := List.eq_nil_of_length_eq_zero (by rw [d2.length_eq]; rfl)
      subst e3
      simp only [List.append_nil] at d3
      obtain ⟨W, c1, c2, c3⟩ := c72 X hX 40 [] W1 W2 [] (by omega) (by omega) (by simp; omega) (by omega) (by
        intro s hs
        rcases List.mem_append.mp hs with hs | hs
        · exact hz1 s (a2.mem_iff.mp hs)
        · exact hz2 s (b2.mem_iff.mp hs)) a1 b1 (fun u hu v hv => hi'.2.2 u (a2.mem_iff.mp hu) v (b2.mem_iff.mp hv))
      simp only [List.nil_append, List.append_nil, List.length_nil, Nat.zero_add, lW1, lW2] at c3
      refine ⟨W, c1, c2.trans (a2.append b2), run_of (hX _ rfl) ?_⟩
      rw [e55]
      refine L_of ?_
      rw [e55_1100]
      refine condP (show (20 : Int) ≤ ((40 : Nat) : Int) by omega) (bindS a3 ?_)
      rw [w20]
      refine L_of ?_
      rw [e55_1100]
      refine condP (show (40 : Int) ≤ ((40 : Nat) : Int) by omega) (bindS b3 ?_)
      refine L_of ?_
      rw [e55_1100, show IntKind.i64.wrap (40 + 20) = 60 by decide]
      refine condNP (show ¬ (60 : Int) ≤ ((40 : Nat) : Int) by omega) (bindS d3 ?_)
      refine L_of ?_
      rw [e55_11110]
      refine condP (show (20 : Int) < ((40 : Nat) : Int) by omega) ?_
      refine L_of ?_
      rw [e55_11110_10100, show IntKind.i64.wrap (2 * 20) = 40 by decide, show IntKind.i64.wrap (0 + 20) = 20 by decide, show IntKind.i64.wrap (20 * 2) = 40 by decide]
      refine condP (show (40 : Int) ≤ ((40 : Nat) : Int) by omega) (bindS c3 ?_)
      refine L_of ?_
      rw [e55_11110_10100, show IntKind.i64.wrap (2 * 20) = 40 by decide, show IntKind.i64.wrap (40 + 20) = 60 by decide, show IntKind.i64.wrap (20 * 2) = 40 by decide, show IntKind.i64.wrap (40 + 40) = 80 by decide]
      refine condNP (show ¬ (80 : Int) ≤ ((40 : Nat) : Int) by omega) (condNP (show ¬ (60 : Int) < ((40 : Nat) : Int) by omega) ?_)
      exact c55_end X hX _ _ 40 40 40 (by omega)
theorem c31 (U : List Sp) (N : Nat) (h : U.length = N) (hN : N ≤ 40) (hz : ZB U) (hi : IX U) :
    ∃ W, SL W ∧ W.Perm U ∧ run tab X 31 [.slice 100000 5 0 N, .p (.fn 32 [])] (rowB U) = some ([], rowB W) := by
  obtain ⟨W, a1, a2, a3⟩ := c55 X hX U N h hN hz hi
  refine ⟨W, a1, a2, run_of (hX _ rfl) ?_⟩
  rw [e31]
  exact bindS a3 rfl
end
end Go.Skm.Drw
