/-
  Merging two sorted parts of a row of spots when one of them has one element; the search by halves; condition: depths within bounds.
-/
import Derived.Test.YtidoclepnecnbaaGreatDoorD6
import Derived.Test.YtidoclepnecnbaaGreatDoorP11
namespace Go.Skm.Drw
open Go Go.Skm
def lt (a b : Sp) : Prop := b.z < a.z ∨ (b.z = a.z ∧ a.i < b.i)
def SL (l : List Sp) : Prop := l.Pairwise lt
theorem SL.get {l : List Sp} (h : SL l) {i j : Nat} (hij : i < j) (hj : j < l.length) : lt (l.getD i default) (l.getD j default) := by
  have := (List.pairwise_iff_getElem.mp h) i j (by omega) hj hij
  rw [List.getD_eq_getElem?_getD, List.getD_eq_getElem?_getD, List.getElem?_eq_getElem hj, List.getElem?_eq_getElem (show i < l.length by omega)]
  exact this
theorem SL.z {l : List Sp} (h : SL l) {i j : Nat} (hij : i ≤ j) (hj : j < l.length) : (l.getD j default).z ≤ (l.getD i default).z := by
  rcases Nat.lt_or_ge i j with h1 | h1
  · rcases h.get h1 hj with h2 | h2 <;> omega
  · have : i = j := by omega
    subst this
    omega
theorem mem_take' {l : List Sp} {k : Nat} {v : Sp} (h : v ∈ l.take k) : ∃ i, i < k ∧ i < l.length ∧ l.getD i default = v := by
  obtain ⟨i, hi, e⟩ := List.getElem_of_mem h
  have hi' := hi
  rw [List.length_take] at hi'
  refine ⟨i, by omega, by omega, ?_⟩
  rw [List.getElem_take] at e
  rw [List.getD_eq_getElem?_getD, List.getElem?_eq_getElem (show i < l.length by omega)]
  exact e
theorem mem_drop' {l : List Sp} {k : Nat} {v : Sp} (h : v ∈ l.drop k) : ∃ i, k ≤ i ∧ i < l.length ∧ l.getD i default = v := by
  obtain ⟨i, hi, e⟩ := List.getElem_of_mem h
  have hi' := hi
  rw [List.length_drop] at hi'
  refine ⟨k + i, by omega, by omega, ?_⟩
  rw [List.getElem_drop] at e
  rw [List.getD_eq_getElem?_getD, List.getElem?_eq_getElem (show k + i < l.length by omega)]
  exact e
theorem getD_mem {l : List Sp} {i : Nat} (h : i < l.length) : l.getD i default ∈ l := by
  rw [List.getD_eq_getElem?_getD, List.getElem?_eq_getElem h]
  exact List.getElem_mem h
theorem getD_mid (A C D : List Sp) {i : Nat} (h : i < C.length) : (A ++ C ++ D).getD (A.length + i) default = C.getD i default := by
  rw [List.getD_eq_getElem?_getD, List.getD_eq_getElem?_getD, List.getElem?_append_left (by simp only [List.length_append]; omega), List.getElem?_append_right (by omega), show A.length + i - A.length = i by omega]
theorem bsearch {α : Type} (F : Nat → Nat → Option α) (ok : Nat → Bool) (lo hi : Nat) (step : ∀ s r x, lo ≤ s → s < r → r ≤ hi → (bif ok ((s + r) / 2) then F ((s + r) / 2 + 1) r else F s ((s + r) / 2)) = some x → F s r = some x)
    (mono : ∀ c c', lo ≤ c' → c' ≤ c → c < hi → ok c = true → ok c' = true) : ∀ (n s r : Nat), r - s ≤ n → lo ≤ s → s ≤ r → r ≤ hi → (∀ c, lo ≤ c → c < s → ok c = true) → (∀ c, r ≤ c → c < hi → ok c = false) →
    ∃ q, lo ≤ q ∧ q ≤ hi ∧ (∀ c, lo ≤ c → c < q → ok c = true) ∧ (∀ c, q ≤ c → c < hi → ok c = false) ∧ ∀ x, F q q = some x → F s r = some x := by
  intro n
  induction n with
  | zero =>
    intro s r h1 h2 h3 h4 h5 h6
    have : s = r := by omega
    subst this
    exact ⟨s, h2, h4, h5, h6, fun _ h => h⟩
  | succ n ih =>
    intro s r h1 h2 h3 h4 h5 h6
    by_cases hs : s = r
    · subst hs
      exact ⟨s, h2, h4, h5, h6, fun _ h => h⟩
    · have e := fun x => step s r x h2 (by omega) h4
      cases hk : ok ((s + r) / 2) with
      | true =>
        rw [hk] at e
        obtain ⟨q, q1, q2, q3, q4, q5⟩ := ih ((s + r) / 2 + 1) r (by omega) (by omega) (by omega) h4 (fun c c1 c2 => mono _ c c1 (by omega) (by omega) hk) h6
        exact ⟨q, q1, q2, q3, q4, fun x hx => e x (q5 x hx)⟩
      | false =>
        rw [hk] at e
        obtain ⟨q, q1, q2, q3, q4, q5⟩ := ih s ((s + r) / 2) (by omega) h2 (by omega) (by omega) h5 (fun c c1 c2 => by
          cases hc : ok c with
          | false => rfl
          | true => rw [mono c _ (by omega) c1 c2 hc] at hk; exact hk)
        exact ⟨q, q1, q2, q3, q4, fun x hx => e x (q5 x hx)⟩
theorem half {s r : Nat} (h : s + r ≤ 1000000) : IntKind.i64.wrap ((IntKind.u64.wrap (IntKind.i64.wrap (((s : Nat) : Int) + ((r : Nat) : Int)))).fdiv (2 ^ 1)) = (((s + r) / 2 : Nat) : Int) := by
  rw [wrap_eq (x := (s : Int) + (r : Int)) (by omega) (by omega), wrapU_eq (by omega) (by omega)]
  have : ((s : Int) + (r : Int)).fdiv (2 ^ 1) = (((s + r) / 2 : Nat) : Int) := by
    rw [Int.fdiv_eq_ediv_of_nonneg _ (by decide)]
    omega
  rw [this, wrap_eq (by omega) (by omega)]
theorem etaS_getD {B : List Sp} {i : Nat} (h : i < B.length) : etaS ((encT B).getD (0 + i) .nil) = encS (B.getD i default) := by
  rw [Nat.zero_add, etaS_get h, List.getD_eq_getElem?_getD, List.getElem?_eq_getElem h]
  rfl
theorem in_bd {i N : Nat} (h : i < N) : (leI 0 ((i : Nat) : Int) && ltI ((i : Nat) : Int) (N : Int)) = true := by
  simp only [leI, ltI, Bool.and_eq_true, decide_eq_true_eq]; omega
def ZB (l : List Sp) : Prop := ∀ s ∈ l, 0 ≤ s.z ∧ s.z ≤ 2000000000
theorem ZB.get {l : List Sp} (h : ZB l) {i : Nat} (hi : i < l.length) : 0 ≤ (l.getD i default).z ∧ (l.getD i default).z ≤ 2000000000 := h _ (getD_mem hi)
section
variable (X : Ext)
theorem c72_moveR (D0 R : List Sp) (N : Nat) (hN : N ≤ 100000) (u : Sp) : ∀ (V1 P : List Sp), (P ++ u :: (V1 ++ R)).length = N →
    L tab (run tab X) 72 (rowB D0) [.lp [0, 1, 0, 1, 1, 1, 0, 1, 0]] (S72_010111010 0 N ((P.length + V1.length + 1 : Nat) : Int) ((P.length : Nat) : Int) (encT (P ++ u :: (V1 ++ R)))) = some ([], rowB (P ++ V1 ++ u :: R)) := by
  intro V1
  induction V1 with
  | nil =>
    intro P h
    simp only [List.length_append, List.length_cons, List.length_nil] at h
    refine L_of ?_
    rw [e72_010111010, wrap_eq (by simp only [List.length_nil]; omega) (by simp only [List.length_nil]; omega)]
    refine condNP (show ¬ ((P.length : Nat) : Int) < ((P.length + ([] : List Sp).length + 1 : Nat) : Int) - 1 by simp only [List.length_nil]; omega) ?_
    simp
  | cons v V1 ih =>
    intro P h
    have h' := h
    simp only [List.length_append, List.length_cons] at h'
    have ih' := ih (P ++ [v]) (by simp at h ⊢; omega)
    have w1 : IntKind.i64.wrap (((P.length + (v :: V1).length + 1 : Nat) : Int) - 1) = ((P.length + (v :: V1).length : Nat) : Int) := by
      simp only [List.length_cons]
      rw [wrap_eq (by omega) (by omega)]; omega
    have w2 : IntKind.i64.wrap (((P.length : Nat) : Int) + 1) = ((P.length + 1 : Nat) : Int) := by rw [wrap_eq (by omega) (by omega)]; omega
    have hs := encT_swap P [] (V1 ++ R) u v (i := 0 + P.length) (j := 0 + (P.length + 1)) (by simp) (by simp)
    refine L_of ?_
    rw [e72_010111010, w1, w2]
    refine condP (show ((P.length : Nat) : Int) < ((P.length + (v :: V1).length : Nat) : Int) by simp only [List.length_cons]; omega) (condT (in_bd (by omega)) (condT (in_bd (by omega)) (condT (in_bd (by omega)) (condT (in_bd (by omega)) ?_))))
    refine Eq.trans (congrArg (fun T => L tab (run tab X) 72 (rowB D0) [.lp [0, 1, 0, 1, 1, 1, 0, 1, 0]] (S72_010111010 0 N ((P.length + (v :: V1).length + 1 : Nat) : Int) ((P.length + 1 : Nat) : Int) T)) hs) ?_
    have e1 : (P ++ [v]).length = P.length + 1 := by simp
    have e2 : P.length + (v :: V1).length + 1 = (P ++ [v]).length + V1.length + 1 := by simp; omega
    rw [← e1, e2, show P ++ v :: ([] ++ u :: (V1 ++ R)) = P ++ [v] ++ u :: (V1 ++ R) by simp]
    refine ih'.trans ?_
    simp
theorem c72_moveL (D0 P : List Sp) (N : Nat) (hN : N ≤ 100000) (v : Sp) : ∀ (U2 R : List Sp), (P ++ U2.reverse ++ v :: R).length = N →
    L tab (run tab X) 72 (rowB D0) [.lp [1, 0, 1, 0, 1, 1, 1, 0, 1, 0]] (S72_1010111010 0 N ((P.length : Nat) : Int) ((P.length + U2.length : Nat) : Int) (encT (P ++ U2.reverse ++ v :: R))) = some ([], rowB (P ++ v :: (U2.reverse ++ R))) := by
  intro U2
  induction U2 with
  | nil =>
    intro R h
    refine L_of ?_
    rw [e72_1010111010]
    refine condNP (show ¬ ((P.length + ([] : List Sp).length : Nat) : Int) > ((P.length : Nat) : Int) by simp) ?_
    simp
  | cons u U2 ih =>
    intro R h
    have h' := h
    simp only [List.length_append, List.length_cons, List.length_reverse] at h'
    have ih' := ih (u :: R) (by simp at h ⊢; omega)
    have w1 : IntKind.i64.wrap (((P.length + (u :: U2).length : Nat) : Int) - 1) = ((P.length + U2.length : Nat) : Int) := by
      simp only [List.length_cons]
      rw [wrap_eq (by omega) (by omega)]; omega
    have hs := encT_swap' (P ++ U2.reverse) [] R u v (i := 0 + (P.length + U2.length)) (j := 0 + (P.length + (u :: U2).length)) (by simp) (by simp; omega)
    refine L_of ?_
    rw [e72_1010111010, w1]
    refine condP (show ((P.length + (u :: U2).length : Nat) : Int) > ((P.length : Nat) : Int) by simp only [List.length_cons]; omega) (condT (in_bd (by omega)) (condT (in_bd (by simp only [List.length_cons]; omega)) (condT (in_bd (by simp only [List.length_cons]; omega)) (condT (in_bd (by omega)) ?_))))
    rw [show P ++ (u :: U2).reverse ++ v :: R = P ++ U2.reverse ++ u :: ([] ++ v :: R) by simp]
    refine Eq.trans (congrArg (fun T => L tab (run tab X) 72 (rowB D0) [.lp [1, 0, 1, 0, 1, 1, 1, 0, 1, 0]] (S72_1010111010 0 N ((P.length : Nat) : Int) ((P.length + U2.length : Nat) : Int) T)) hs) ?_
    refine ih'.trans ?_
    simp
variable (hX : Mine X)
include hX
theorem c32 (a b : Sp) : run tab X 32 [.p (encS a), .p (encS b)] [] = some ([.p (.int .i64 (IntKind.i64.wrap (b.z - a.z)))], []) := run_of (hX _ rfl) (by rw [e32])
theorem c32g (B : List Sp) {i j : Nat} (hi : i < B.length) (hj : j < B.length) :
    run tab X 32 [.p (etaS ((encT B).getD (0 + i) .nil)), .p (etaS ((encT B).getD (0 + j) .nil))] [] = some ([.p (.int .i64 (IntKind.i64.wrap ((B.getD j default).z - (B.getD i default).z)))], []) := by
  rw [etaS_getD hi, etaS_getD hj]
  exact c32 X hX _ _
theorem c72_one (P V S : List Sp) (u : Sp) (N : Nat) (hN : (P ++ ([u] ++ V) ++ S).length = N) (h : N ≤ 100000) (hz : ZB ([u] ++ V)) (hV : SL V) (hi : ∀ v ∈ V, u.i < v.i) (a m b : Int) (ha : a = (P.length : Nat)) (hm : m = (P.length + 1 : Nat)) (hb : b = (P.length + 1 + V.length : Nat)) :
    ∃ W, SL W ∧ W.Perm ([u] ++ V) ∧ run tab X 72 [.slice 100000 5 0 N, .p (.int .i64 a), .p (.int .i64 m), .p (.int .i64 b), .p (.fn 32 [])] (rowB (P ++ ([u] ++ V) ++ S)) = some ([], rowB (P ++ W ++ S)) := by
  have hN' := hN
  simp only [List.length_append, List.length_cons, List.length_nil] at hN'
  have gB : ∀ i, i < V.length → (P ++ ([u] ++ V) ++ S).getD (P.length + 1 + i) default = V.getD i default := by
    intro i hi
    have := getD_mid (P ++ [u]) V S hi
    simp only [List.length_append, List.length_cons, List.length_nil] at this
    rw [← this]
    simp
  have gu : (P ++ ([u] ++ V) ++ S).getD P.length default = u := by
    have := getD_mid P [u] (V ++ S) (i := 0) (by simp)
    simp only [Nat.add_zero] at this
    rw [show P ++ ([u] ++ V) ++ S = P ++ [u] ++ (V ++ S) by simp, this]
    rfl
  obtain ⟨q, q1, q2, q3, q4, q5⟩ := bsearch (fun s r => L tab (run tab X) 72 (rowB (P ++ ([u] ++ V) ++ S)) [.lp [0, 1, 0, 1, 1, 0, 0]] (S72_0101100 0 N ((P.length : Nat) : Int) ((s : Nat) : Int) ((r : Nat) : Int) (encT (P ++ ([u] ++ V) ++ S))))
    (fun c => decide (((P ++ ([u] ++ V) ++ S).getD P.length default).z - ((P ++ ([u] ++ V) ++ S).getD c default).z < 0)) (P.length + 1) (P.length + 1 + V.length) (by
      intro s r x h1 h2 h3 hx
      have w1 : IntKind.i64.wrap ((((s + r) / 2 : Nat) : Int) + 1) = (((s + r) / 2 + 1 : Nat) : Int) := by rw [wrap_eq (by omega) (by omega)]; omega
      refine L_of ?_
      rw [e72_0101100, half (by omega), w1]
      refine condP (show ((s : Nat) : Int) < ((r : Nat) : Int) by omega) (condT (in_bd (by omega)) (condT (in_bd (by omega)) ?_))
      refine bindS (c32g X hX (P ++ ([u] ++ V) ++ S) (i := (s + r) / 2) (j := P.length) (by omega) (by omega)) ?_
      obtain ⟨c, hc⟩ : ∃ c, (s + r) / 2 = P.length + 1 + c := ⟨(s + r) / 2 - (P.length + 1), by omega⟩
      have z1 := hz u (by simp)
      have z2 := hz (V.getD c default) (List.mem_append_right _ (getD_mem (by omega)))
      have : IntKind.i64.wrap (((P ++ ([u] ++ V) ++ S).getD P.length default).z - ((P ++ ([u] ++ V) ++ S).getD ((s + r) / 2) default).z) = ((P ++ ([u] ++ V) ++ S).getD P.length default).z - ((P ++ ([u] ++ V) ++ S).getD ((s + r) / 2) default).z := by
        rw [hc, gu, gB c (by omega), wrap_eq (by omega) (by omega)]
      rw [this]
      exact hx) (by
      intro c c' h1 h2 h3
      obtain ⟨d, rfl⟩ : ∃ d, c = P.length + 1 + d := ⟨c - (P.length + 1), by omega⟩
      obtain ⟨d', rfl⟩ : ∃ d', c' = P.length + 1 + d' := ⟨c' - (P.length + 1), by omega⟩
      have := hV.z (i := d') (j := d) (by omega) (by omega)
      simp only [decide_eq_true_eq]
      rw [gB d (by omega), gB d' (by omega)]
      omega) V.length (P.length + 1) (P.length + 1 + V.length) (by omega) (by omega) (by omega) (by omega) (fun c h1 h2 => by omega) (fun c h1 h2 => by omega)
  obtain ⟨k, rfl⟩ : ∃ k, q = P.length + 1 + k := ⟨q - (P.length + 1), by omega⟩
  have k1 : ∀ v ∈ V.take k, lt v u := by
    intro v hv
    obtain ⟨i, i1, i2, rfl⟩ := mem_take' hv
    have := q3 (P.length + 1 + i) (by omega) (by omega)
    simp only [decide_eq_true_eq] at this
    rw [gu, gB i i2] at this
    exact .inl (by omega)
  have k2 : ∀ v ∈ V.drop k, lt u v := by
    intro v hv
    obtain ⟨i, i1, i2, rfl⟩ := mem_drop' hv
    have := q4 (P.length + 1 + i) (by omega) (by omega)
    simp only [decide_eq_false_iff_not] at this
    rw [gu, gB i i2] at this
    have := hi _ (getD_mem i2)
    unfold lt
    omega
  have eV : V.take k ++ V.drop k = V := List.take_append_drop _ _
  have hp : SL (V.take k ++ V.drop k) := by rw [eV]; exact hV
  have hp' := List.pairwise_append.mp hp
  refine ⟨V.take k ++ u :: V.drop k, ?_, ?_, run_of (hX _ rfl) ?_⟩
  · refine List.pairwise_append.mpr ⟨hp'.1, List.pairwise_cons.mpr ⟨k2, hp'.2.1⟩, ?_⟩
    intro x hx y hy
    rcases List.mem_cons.mp hy with rfl | hy
    · exact k1 x hx
    · exact hp'.2.2 x hx y hy
  · refine List.perm_middle.trans ?_
    rw [eV]
    exact List.Perm.refl _
  · subst ha hm hb
    rw [e72, wrap_eq (x := ((P.length + 1 : Nat) : Int) - ((P.length : Nat) : Int)) (by omega) (by omega)]
    refine condT (show ((((P.length + 1 : Nat) : Int) - ((P.length : Nat) : Int)) == 1) = true by simp; omega) ?_
    refine q5 _ ?_
    refine L_of ?_
    rw [e72_0101100]
    refine condNP (show ¬ ((P.length + 1 + k : Nat) : Int) < ((P.length + 1 + k : Nat) : Int) by omega) ?_
    have e1 : P ++ ([u] ++ V) ++ S = P ++ u :: (V.take k ++ (V.drop k ++ S)) := by
      rw [← List.append_assoc (V.take k), eV]; simp
    have hm := c72_moveR X (P ++ ([u] ++ V) ++ S) (V.drop k ++ S) N h u (V.take k) P (by rw [← e1]; exact hN)
    rw [← e1, show P.length + (V.take k).length + 1 = P.length + 1 + k by rw [List.length_take]; omega] at hm
    refine hm.trans ?_
    simp
theorem c72_last (P U S : List Sp) (v : Sp) (N : Nat) (hN : (P ++ (U ++ [v]) ++ S).length = N) (h : N ≤ 100000) (hz : ZB (U ++ [v])) (hU : SL U) (h2 : 2 ≤ U.length) (hi : ∀ u ∈ U, u.i < v.i) (a m b : Int) (ha : a = (P.length : Nat)) (hm : m = (P.length + U.length : Nat)) (hb : b = (P.length + U.length + 1 : Nat)) :
    ∃ W, SL W ∧ W.Perm (U ++ [v]) ∧ run tab X 72 [.slice 100000 5 0 N, .p (.int .i64 a), .p (.int .i64 m), .p (.int .i64 b), .p (.fn 32 [])] (rowB (P ++ (U ++ [v]) ++ S)) = some ([], rowB (P ++ W ++ S)) := by
  have hN' := hN
  simp only [List.length_append, List.length_cons, List.length_nil] at hN'
  have gB : ∀ i, i < U.length → (P ++ (U ++ [v]) ++ S).getD (P.length + i) default = U.getD i default := by
    intro i hi
    have := getD_mid P U ([v] ++ S) hi
    rw [← this]
    simp
  have gu : (P ++ (U ++ [v]) ++ S).getD (P.length + U.length) default = v := by
    have := getD_mid (P ++ U) [v] S (i := 0) (by simp)
    simp only [Nat.add_zero, List.length_append] at this
    rw [show P ++ (U ++ [v]) ++ S = P ++ U ++ [v] ++ S by simp, this]
    rfl
  obtain ⟨q, q1, q2, q3, q4, q5⟩ := bsearch (fun s r => L tab (run tab X) 72 (rowB (P ++ (U ++ [v]) ++ S)) [.lp [1, 0, 1, 0, 1, 1, 0, 0]] (S72_10101100 0 N ((P.length + U.length : Nat) : Int) ((s : Nat) : Int) ((r : Nat) : Int) (encT (P ++ (U ++ [v]) ++ S))))
    (fun c => !decide (((P ++ (U ++ [v]) ++ S).getD c default).z - ((P ++ (U ++ [v]) ++ S).getD (P.length + U.length) default).z < 0)) P.length (P.length + U.length) (by
      intro s r x h1 h2 h3 hx
      have w1 : IntKind.i64.wrap ((((s + r) / 2 : Nat) : Int) + 1) = (((s + r) / 2 + 1 : Nat) : Int) := by rw [wrap_eq (by omega) (by omega)]; omega
      refine L_of ?_
      rw [e72_10101100, half (by omega), w1]
      refine condP (show ((s : Nat) : Int) < ((r : Nat) : Int) by omega) (condT (in_bd (by omega)) (condT (in_bd (by omega)) ?_))
      refine bindS (c32g X hX (P ++ (U ++ [v]) ++ S) (i := P.length + U.length) (j := (s + r) / 2) (by omega) (by omega)) ?_
      obtain ⟨c, hc⟩ : ∃ c, (s + r) / 2 = P.length + c := ⟨(s + r) / 2 - P.length, by omega⟩
      have z1 := hz v (by simp)
      have z2 := hz (U.getD c default) (List.mem_append_left _ (getD_mem (by omega)))
      have : IntKind.i64.wrap (((P ++ (U ++ [v]) ++ S).getD ((s + r) / 2) default).z - ((P ++ (U ++ [v]) ++ S).getD (P.length + U.length) default).z) = ((P ++ (U ++ [v]) ++ S).getD ((s + r) / 2) default).z - ((P ++ (U ++ [v]) ++ S).getD (P.length + U.length) default).z := by
        rw [hc, gu, gB c (by omega), wrap_eq (by omega) (by omega)]
      rw [this]
      exact hx) (by
      intro c c' h1 h2 h3
      obtain ⟨d, rfl⟩ : ∃ d, c = P.length + d := ⟨c - P.length, by omega⟩
      obtain ⟨d', rfl⟩ : ∃ d', c' = P.length + d' := ⟨c' - P.length, by omega⟩
      have := hU.z (i := d') (j := d) (by omega) (by omega)
      simp only [Bool.not_eq_true', decide_eq_false_iff_not]
      rw [gB d (by omega), gB d' (by omega)]
      omega) U.length P.length (P.length + U.length) (by omega) (by omega) (by omega) (by omega) (fun c h1 h2 => by omega) (fun c h1 h2 => by omega)
  obtain ⟨k, rfl⟩ : ∃ k, q = P.length + k := ⟨q - P.length, by omega⟩
  have k1 : ∀ u ∈ U.take k, lt u v := by
    intro u hu
    obtain ⟨i, i1, i2, rfl⟩ := mem_take' hu
    have := q3 (P.length + i) (by omega) (by omega)
    simp only [Bool.not_eq_true', decide_eq_false_iff_not] at this
    rw [gu, gB i i2] at this
    have := hi _ (getD_mem i2)
    unfold lt
    omega
  have k2 : ∀ u ∈ U.drop k, lt v u := by
    intro u hu
    obtain ⟨i, i1, i2, rfl⟩ := mem_drop' hu
    have := q4 (P.length + i) (by omega) (by omega)
    simp only [Bool.not_eq_false', decide_eq_true_eq] at this
    rw [gu, gB i i2] at this
    exact .inl (by omega)
  have eU : U.take k ++ U.drop k = U := List.take_append_drop _ _
  have hp : SL (U.take k ++ U.drop k) := by rw [eU]; exact hU
  have hp' := List.pairwise_append.mp hp
  refine ⟨U.take k ++ v :: U.drop k, ?_, ?_, run_of (hX _ rfl) ?_⟩
  · refine List.pairwise_append.mpr ⟨hp'.1, List.pairwise_cons.mpr ⟨k2, hp'.2.1⟩, ?_⟩
    intro x hx y hy
    rcases List.mem_cons.mp hy with rfl | hy
    · exact k1 x hx
    · exact hp'.2.2 x hx y hy
  · refine List.perm_middle.trans ?_
    rw [eU]
    exact (List.perm_append_singleton v U).symm
  · subst ha hm hb
    rw [e72, wrap_eq (x := ((P.length + U.length : Nat) : Int) - ((P.length : Nat) : Int)) (by omega) (by omega), wrap_eq (x := ((P.length + U.length + 1 : Nat) : Int) - ((P.length + U.length : Nat) : Int)) (by omega) (by omega)]
    refine condF (show ((((P.length + U.length : Nat) : Int) - ((P.length : Nat) : Int)) == 1) = false by simp; omega) ?_
    refine condT (show ((((P.length + U.length + 1 : Nat) : Int) - ((P.length + U.length : Nat) : Int)) == 1) = true by simp; omega) ?_
    refine q5 _ ?_
    refine L_of ?_
    rw [e72_10101100]
    refine condNP (show ¬ ((P.length + k : Nat) : Int) < ((P.length + k : Nat) : Int) by omega) ?_
    have e1 : P ++ (U ++ [v]) ++ S = P ++ U.take k ++ (U.drop k).reverse.reverse ++ v :: S := by
      have : P ++ U.take k ++ U.drop k = P ++ U := by rw [List.append_assoc, eU]
      rw [List.reverse_reverse, this]; simp
    have hm := c72_moveL X (P ++ (U ++ [v]) ++ S) (P ++ U.take k) N h v (U.drop k).reverse S (by rw [← e1]; exact hN)
    rw [← e1, show (P ++ U.take k).length = P.length + k by rw [List.length_append, List.length_take]; omega, show P.length + k + (U.drop k).reverse.length = P.length + U.length by rw [List.length_reverse, List.length_drop]; omega] at hm
    refine hm.trans ?_
    simp
end
end Go.Skm.Drw
