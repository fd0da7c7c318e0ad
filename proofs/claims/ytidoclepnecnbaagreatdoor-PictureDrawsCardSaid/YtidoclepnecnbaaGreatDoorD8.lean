/-
  Merging two sorted parts of a row of spots; condition: the indices of the first part are the smaller ones.
-/
import Derived.Test.YtidoclepnecnbaaGreatDoorD7
namespace Go.Skm.Drw
open Go Go.Skm
section
variable (X : Ext)
noncomputable def T2 (N : Nat) (m e b : Int) (row : List PV) : Option (List AV × List Blk) :=
  bif ltI m e then bif ltI e b then (run tab X 72 [.slice 100000 5 0 N, .p (.int .i64 m), .p (.int .i64 e), .p (.int .i64 b), .p (.fn 32 [])] [.arr true kS row]).bind fun r => some ([], [.arr true kS ((r.2.headD (.box [])).xs)])
    else some ([], [.arr true kS row]) else some ([], [.arr true kS row])
noncomputable def T1 (N : Nat) (a s m e b : Int) (row : List PV) : Option (List AV × List Blk) :=
  bif ltI a s then bif ltI s m then (run tab X 72 [.slice 100000 5 0 N, .p (.int .i64 a), .p (.int .i64 s), .p (.int .i64 m), .p (.fn 32 [])] [.arr true kS row]).bind fun r => T2 X N m e b ((r.2.headD (.box [])).xs)
    else T2 X N m e b row else T2 X N m e b row
def Mrg (N : Nat) (P U V S : List Sp) : Prop := ∃ W, SL W ∧ W.Perm (U ++ V) ∧ run tab X 72 [.slice 100000 5 0 N, .p (.int .i64 ((P.length : Nat) : Int)), .p (.int .i64 ((P.length + U.length : Nat) : Int)), .p (.int .i64 ((P.length + U.length + V.length : Nat) : Int)), .p (.fn 32 [])] (rowB (P ++ (U ++ V) ++ S)) = some ([], rowB (P ++ W ++ S))
theorem piece (N : Nat) (P U V S : List Sp) (hU : SL U) (hV : SL V) (h : 1 ≤ U.length → 1 ≤ V.length → Mrg X N P U V S) (a s m : Int) (ha : a = (P.length : Nat)) (hs : s = (P.length + U.length : Nat)) (hm : m = (P.length + U.length + V.length : Nat)) :
    ∃ W, SL W ∧ W.Perm (U ++ V) ∧ ∀ K : List PV → Option (List AV × List Blk),
      (bif ltI a s then bif ltI s m then (run tab X 72 [.slice 100000 5 0 N, .p (.int .i64 a), .p (.int .i64 s), .p (.int .i64 m), .p (.fn 32 [])] [.arr true kS (encT (P ++ (U ++ V) ++ S))]).bind fun r => K ((r.2.headD (.box [])).xs) else K (encT (P ++ (U ++ V) ++ S)) else K (encT (P ++ (U ++ V) ++ S))) = K (encT (P ++ W ++ S)) := by
  subst ha hs hm
  rcases Nat.eq_zero_or_pos U.length with h1 | h1
  · have : U = [] := List.eq_nil_of_length_eq_zero h1
    subst this
    exact ⟨V, hV, .refl _, fun K => condNP (show ¬ ((P.length : Nat) : Int) < ((P.length + ([] : List Sp).length : Nat) : Int) by simp only [List.length_nil]; omega) rfl⟩
  · rcases Nat.eq_zero_or_pos V.length with h2 | h2
    · have : V = [] := List.eq_nil_of_length_eq_zero h2
      subst this
      refine ⟨U, hU, by simp, fun K => condP (show ((P.length : Nat) : Int) < ((P.length + U.length : Nat) : Int) by omega) (condNP (show ¬ ((P.length + U.length : Nat) : Int) < ((P.length + U.length + ([] : List Sp).length : Nat) : Int) by simp only [List.length_nil]; omega) ?_)⟩
      simp
    · obtain ⟨W, w1, w2, w3⟩ := h h1 h2
      exact ⟨W, w1, w2, fun K => condP (show ((P.length : Nat) : Int) < ((P.length + U.length : Nat) : Int) by omega) (condP (show ((P.length + U.length : Nat) : Int) < ((P.length + U.length + V.length : Nat) : Int) by omega) (bindS w3 rfl))⟩
variable (hX : Mine X)
include hX
theorem c72_main (k : Nat) (ih : ∀ (N : Nat) (P U V S : List Sp), U.length + V.length ≤ k → 1 ≤ U.length → 1 ≤ V.length → (P ++ (U ++ V) ++ S).length = N → N ≤ 100000 → ZB (U ++ V) → SL U → SL V → (∀ u ∈ U, ∀ v ∈ V, u.i < v.i) → Mrg X N P U V S)
    (N : Nat) (P U V S : List Sp) (hk : U.length + V.length ≤ k + 1) (h1 : 2 ≤ U.length) (h2 : 2 ≤ V.length) (hN : (P ++ (U ++ V) ++ S).length = N) (h : N ≤ 100000) (hz : ZB (U ++ V)) (hU : SL U) (hV : SL V) (hi : ∀ u ∈ U, ∀ v ∈ V, u.i < v.i)
    (mid lo hi' : Nat) (hmid : mid = (P.length + (P.length + U.length + V.length)) / 2) (b1 : P.length ≤ lo) (b2 : lo ≤ hi') (b3 : hi' ≤ P.length + U.length) (b4 : hi' ≤ mid) (b5 : mid + (P.length + U.length) ≤ lo + (P.length + U.length + V.length)) (b6 : lo = P.length ∨ mid + (P.length + U.length) = lo + (P.length + U.length + V.length)) (b7 : hi' = P.length + U.length ∨ hi' = mid) :
    ∃ W, SL W ∧ W.Perm (U ++ V) ∧ L tab (run tab X) 72 (rowB (P ++ (U ++ V) ++ S)) [.lp [1, 1, 1, 1, 1, 1, 1, 0, 0]] (S72_111111100 0 N ((P.length : Nat) : Int) ((P.length + U.length : Nat) : Int) ((P.length + U.length + V.length : Nat) : Int) ((mid : Nat) : Int) ((mid + (P.length + U.length) : Nat) : Int) ((lo : Nat) : Int) ((hi' : Nat) : Int) ((mid + (P.length + U.length) - 1 : Nat) : Int) (encT (P ++ (U ++ V) ++ S))) = some ([], rowB (P ++ W ++ S)) := by
  have hN' := hN
  simp only [List.length_append] at hN'
  have gU : ∀ i, i < U.length → (P ++ (U ++ V) ++ S).getD (P.length + i) default = U.getD i default := by
    intro i hi
    rw [← getD_mid P U (V ++ S) hi]
    simp
  have gV : ∀ i, i < V.length → (P ++ (U ++ V) ++ S).getD (P.length + U.length + i) default = V.getD i default := by
    intro i hi
    have := getD_mid (P ++ U) V S hi
    rw [List.length_append] at this
    rw [← this]
    simp
  obtain ⟨q, q1, q2, q3, q4, q5⟩ := bsearch (fun s r => L tab (run tab X) 72 (rowB (P ++ (U ++ V) ++ S)) [.lp [1, 1, 1, 1, 1, 1, 1, 0, 0]] (S72_111111100 0 N ((P.length : Nat) : Int) ((P.length + U.length : Nat) : Int) ((P.length + U.length + V.length : Nat) : Int) ((mid : Nat) : Int) ((mid + (P.length + U.length) : Nat) : Int) ((s : Nat) : Int) ((r : Nat) : Int) ((mid + (P.length + U.length) - 1 : Nat) : Int) (encT (P ++ (U ++ V) ++ S))))
    (fun c => !decide (((P ++ (U ++ V) ++ S).getD c default).z - ((P ++ (U ++ V) ++ S).getD (mid + (P.length + U.length) - 1 - c) default).z < 0)) lo hi' (by
      intro s r x s1 s2 s3 hx
      have w1 : IntKind.i64.wrap ((((s + r) / 2 : Nat) : Int) + 1) = (((s + r) / 2 + 1 : Nat) : Int) := by rw [wrap_eq (by omega) (by omega)]; omega
      have w2 : IntKind.i64.wrap (((mid + (P.length + U.length) - 1 : Nat) : Int) - (((s + r) / 2 : Nat) : Int)) = ((mid + (P.length + U.length) - 1 - (s + r) / 2 : Nat) : Int) := by rw [wrap_eq (by omega) (by omega)]; omega
      refine L_of ?_
      rw [e72_111111100, half (by omega), w1, w2]
      refine condP (show ((s : Nat) : Int) < ((r : Nat) : Int) by omega) (condT (in_bd (by omega)) (condT (in_bd (by omega)) ?_))
      refine bindS (c32g X hX (P ++ (U ++ V) ++ S) (i := mid + (P.length + U.length) - 1 - (s + r) / 2) (j := (s + r) / 2) (by omega) (by omega)) ?_
      have : IntKind.i64.wrap (((P ++ (U ++ V) ++ S).getD ((s + r) / 2) default).z - ((P ++ (U ++ V) ++ S).getD (mid + (P.length + U.length) - 1 - (s + r) / 2) default).z) = ((P ++ (U ++ V) ++ S).getD ((s + r) / 2) default).z - ((P ++ (U ++ V) ++ S).getD (mid + (P.length + U.length) - 1 - (s + r) / 2) default).z := by
        obtain ⟨c, hc⟩ : ∃ c, (s + r) / 2 = P.length + c := ⟨(s + r) / 2 - P.length, by omega⟩
        obtain ⟨d, hd⟩ : ∃ d, mid + (P.length + U.length) - 1 - (s + r) / 2 = P.length + U.length + d := ⟨mid + (P.length + U.length) - 1 - (s + r) / 2 - (P.length + U.length), by omega⟩
        have z1 := hz (U.getD c default) (List.mem_append_left _ (getD_mem (by omega)))
        have z2 := hz (V.getD d default) (List.mem_append_right _ (getD_mem (by omega)))
        rw [hd, hc, gU c (by omega), gV d (by omega), wrap_eq (by omega) (by omega)]
      rw [this]
      exact hx) (by
      intro c c' c1 c2 c3
      obtain ⟨x, hx⟩ : ∃ x, c = P.length + x := ⟨c - P.length, by omega⟩
      obtain ⟨x', hx'⟩ : ∃ x, c' = P.length + x := ⟨c' - P.length, by omega⟩
      obtain ⟨y, hy⟩ : ∃ d, mid + (P.length + U.length) - 1 - c = P.length + U.length + d := ⟨mid + (P.length + U.length) - 1 - c - (P.length + U.length), by omega⟩
      obtain ⟨y', hy'⟩ : ∃ d, mid + (P.length + U.length) - 1 - c' = P.length + U.length + d := ⟨mid + (P.length + U.length) - 1 - c' - (P.length + U.length), by omega⟩
      have z1 := hU.z (i := x') (j := x) (by omega) (by omega)
      have z2 := hV.z (i := y) (j := y') (by omega) (by omega)
      simp only [Bool.not_eq_true', decide_eq_false_iff_not]
      rw [hy, hy', hx, hx', gU x (by omega), gU x' (by omega), gV y (by omega), gV y' (by omega)]
      omega) (hi' - lo) lo hi' (by omega) (by omega) (by omega) (by omega) (fun c h1 h2 => by omega) (fun c h1 h2 => by omega)
  obtain ⟨k, rfl⟩ : ∃ k, q = P.length + k := ⟨q - P.length, by omega⟩
  obtain ⟨j, hj⟩ : ∃ j, mid = P.length + k + j := ⟨mid - (P.length + k), by omega⟩
  have k12 : ∀ u ∈ U.take k, ∀ v ∈ V.drop j, lt u v := by
    intro u hu v hv
    obtain ⟨x, x1, x2, rfl⟩ := mem_take' hu
    obtain ⟨y, y1, y2, rfl⟩ := mem_drop' hv
    have hlt := hi _ (getD_mem x2) _ (getD_mem y2)
    have := q3 (P.length + (k - 1)) (by omega) (by omega)
    rw [show mid + (P.length + U.length) - 1 - (P.length + (k - 1)) = P.length + U.length + j by omega, gU _ (by omega), gV _ (by omega)] at this
    simp only [Bool.not_eq_true', decide_eq_false_iff_not] at this
    have z1 := hU.z (i := x) (j := k - 1) (by omega) (by omega)
    have z2 := hV.z (i := j) (j := y) (by omega) (by omega)
    unfold lt
    omega
  have k21 : ∀ v ∈ V.take j, ∀ u ∈ U.drop k, lt v u := by
    intro v hv u hu
    obtain ⟨y, y1, y2, rfl⟩ := mem_take' hv
    obtain ⟨x, x1, x2, rfl⟩ := mem_drop' hu
    have := q4 (P.length + k) (by omega) (by omega)
    rw [show mid + (P.length + U.length) - 1 - (P.length + k) = P.length + U.length + (j - 1) by omega, gU _ (by omega), gV _ (by omega)] at this
    simp only [Bool.not_eq_false', decide_eq_true_eq] at this
    have z1 := hU.z (i := k) (j := x) (by omega) (by omega)
    have z2 := hV.z (i := y) (j := j - 1) (by omega) (by omega)
    exact .inl (by omega)
  have eU : U.take k ++ U.drop k = U := List.take_append_drop _ _
  have eV : V.take j ++ V.drop j = V := List.take_append_drop _ _
  have lU1 : (U.take k).length = k := by rw [List.length_take]; omega
  have lU2 : (U.drop k).length = U.length - k := List.length_drop
  have lV1 : (V.take j).length = j := by rw [List.length_take]; omega
  have lV2 : (V.drop j).length = V.length - j := List.length_drop
  generalize U.take k = U1 at *
  generalize U.drop k = U2 at *
  generalize V.take j = V1 at *
  generalize V.drop j = V2 at *
  have sU : SL (U1 ++ U2) := by rw [eU]; exact hU
  have sV : SL (V1 ++ V2) := by rw [eV]; exact hV
  have sU' := List.pairwise_append.mp sU
  have sV' := List.pairwise_append.mp sV
  have mU1 : ∀ x ∈ U1, x ∈ U := fun x hx => by rw [← eU]; exact List.mem_append_left _ hx
  have mU2 : ∀ x ∈ U2, x ∈ U := fun x hx => by rw [← eU]; exact List.mem_append_right _ hx
  have mV1 : ∀ x ∈ V1, x ∈ V := fun x hx => by rw [← eV]; exact List.mem_append_left _ hx
  have mV2 : ∀ x ∈ V2, x ∈ V := fun x hx => by rw [← eV]; exact List.mem_append_right _ hx
  have lrow : (P ++ (U1 ++ V1) ++ (U2 ++ V2 ++ S)).length = N := by
    simp only [List.length_append]; omega
  obtain ⟨W1, w11, w12, w13⟩ := piece X N P U1 V1 (U2 ++ V2 ++ S) sU'.1 sV'.1 (fun g1 g2 => ih N P U1 V1 (U2 ++ V2 ++ S) (by omega) g1 g2 lrow h (fun s hs => hz s (by
      rcases List.mem_append.mp hs with hs | hs
      · exact List.mem_append_left _ (mU1 _ hs)
      · exact List.mem_append_right _ (mV1 _ hs))) sU'.1 sV'.1 (fun u hu v hv => hi u (mU1 u hu) v (mV1 v hv))) ((P.length : Nat) : Int) ((P.length + k : Nat) : Int) ((mid : Nat) : Int) rfl (by rw [lU1]) (by rw [lU1, lV1, hj])
  have lW1 : W1.length = k + j := by rw [w12.length_eq, List.length_append]; omega
  obtain ⟨W2, w21, w22, w23⟩ := piece X N (P ++ W1) U2 V2 S sU'.2.1 sV'.2.1 (fun g1 g2 => ih N (P ++ W1) U2 V2 S (by omega) g1 g2 (by simp only [List.length_append] at lrow ⊢; omega) h (fun s hs => hz s (by
      rcases List.mem_append.mp hs with hs | hs
      · exact List.mem_append_left _ (mU2 _ hs)
      · exact List.mem_append_right _ (mV2 _ hs))) sU'.2.1 sV'.2.1 (fun u hu v hv => hi u (mU2 u hu) v (mV2 v hv))) ((mid : Nat) : Int) ((mid + (P.length + U.length) - (P.length + k) : Nat) : Int) ((P.length + U.length + V.length : Nat) : Int) (by rw [List.length_append]; omega) (by rw [List.length_append]; omega) (by rw [List.length_append]; omega)
  refine ⟨W1 ++ W2, ?_, ?_, q5 _ (L_of ?_)⟩
  · refine List.pairwise_append.mpr ⟨w11, w21, ?_⟩
    intro x hx y hy
    rcases List.mem_append.mp (w12.mem_iff.mp hx) with hx | hx <;> rcases List.mem_append.mp (w22.mem_iff.mp hy) with hy | hy
    · exact sU'.2.2 x hx y hy
    · exact k12 x hx y hy
    · exact k21 x hx y hy
    · exact sV'.2.2 x hx y hy
  · refine (w12.append w22).trans ?_
    rw [← eU, ← eV]
    simp only [List.append_assoc]
    refine List.Perm.append_left _ ?_
    rw [← List.append_assoc, ← List.append_assoc]
    exact List.perm_append_comm.append_right _
  · have fin : T1 X N ((P.length : Nat) : Int) ((P.length + k : Nat) : Int) ((mid : Nat) : Int) ((mid + (P.length + U.length) - (P.length + k) : Nat) : Int) ((P.length + U.length + V.length : Nat) : Int) (encT (P ++ (U1 ++ V1) ++ (U2 ++ V2 ++ S))) = some ([], rowB (P ++ (W1 ++ W2) ++ S)) := by
      refine (w13 (T2 X N ((mid : Nat) : Int) ((mid + (P.length + U.length) - (P.length + k) : Nat) : Int) ((P.length + U.length + V.length : Nat) : Int))).trans ?_
      rw [show P ++ W1 ++ (U2 ++ V2 ++ S) = (P ++ W1) ++ (U2 ++ V2) ++ S by simp]
      refine (w23 (fun row => some ([], [.arr true kS row]))).trans ?_
      rw [show P ++ W1 ++ W2 ++ S = P ++ (W1 ++ W2) ++ S by simp]
    have we : IntKind.i64.wrap (((mid + (P.length + U.length) : Nat) : Int) - ((P.length + k : Nat) : Int)) = ((mid + (P.length + U.length) - (P.length + k) : Nat) : Int) := by rw [wrap_eq (by omega) (by omega)]; omega
    rw [e72_111111100, we]
    refine condNP (show ¬ ((P.length + k : Nat) : Int) < ((P.length + k : Nat) : Int) by omega) ?_
    have e0 : P ++ (U ++ V) ++ S = (P ++ U1) ++ U2 ++ V1 ++ (V2 ++ S) := by rw [← eU, ← eV]; simp
    have e1 : (P ++ U1) ++ V1 ++ U2 ++ (V2 ++ S) = P ++ (U1 ++ V1) ++ (U2 ++ V2 ++ S) := by simp
    rcases Nat.eq_zero_or_pos U2.length with z1 | z1
    · have : U2 = [] := List.eq_nil_of_length_eq_zero z1
      subst this
      rw [e0, show P ++ U1 ++ [] ++ V1 ++ (V2 ++ S) = P ++ (U1 ++ V1) ++ ([] ++ V2 ++ S) by simp]
      exact condNP (show ¬ ((P.length + k : Nat) : Int) < ((P.length + U.length : Nat) : Int) by omega) fin
    · refine condP (show ((P.length + k : Nat) : Int) < ((P.length + U.length : Nat) : Int) by omega) ?_
      rcases Nat.eq_zero_or_pos V1.length with z2 | z2
      · have : V1 = [] := List.eq_nil_of_length_eq_zero z2
        subst this
        rw [e0, show P ++ U1 ++ U2 ++ [] ++ (V2 ++ S) = P ++ (U1 ++ []) ++ (U2 ++ V2 ++ S) by simp]
        exact condNP (show ¬ ((P.length + U.length : Nat) : Int) < ((mid + (P.length + U.length) - (P.length + k) : Nat) : Int) by omega) fin
      · refine condP (show ((P.length + U.length : Nat) : Int) < ((mid + (P.length + U.length) - (P.length + k) : Nat) : Int) by omega) ?_
        have hr := c88 X hX (P ++ U1) U2 V1 (V2 ++ S) N z1 z2 (by rw [← e0]; exact hN) h ((P.length + k : Nat) : Int) ((P.length + U.length : Nat) : Int) ((mid + (P.length + U.length) - (P.length + k) : Nat) : Int) (by rw [List.length_append]; omega) (by rw [List.length_append]; omega) (by rw [List.length_append]; omega)
        rw [← e0, e1] at hr
        exact bindS hr fin
theorem c72_all : ∀ (k : Nat) (N : Nat) (P U V S : List Sp), U.length + V.length ≤ k → 1 ≤ U.length → 1 ≤ V.length → (P ++ (U ++ V) ++ S).length = N → N ≤ 100000 → ZB (U ++ V) → SL U → SL V → (∀ u ∈ U, ∀ v ∈ V, u.i < v.i) → Mrg X N P U V S := by
  intro k
  induction k with
  | zero => intro N P U V S hk h1; omega
  | succ k ih =>
    intro N P U V S hk h1 h2 hN h hz hU hV hi
    have hN' := hN
    simp only [List.length_append] at hN'
    match U, V, h1, h2 with
    | [u], V, h1, h2 =>
      exact c72_one X hX P V S u N hN h hz hV (fun v hv => hi u (by simp) v hv) _ _ _ rfl rfl rfl
    | u :: u' :: U', [v], h1, h2 =>
      exact c72_last X hX P (u :: u' :: U') S v N hN h hz hU (by simp) (fun u hu => hi u hu v (by simp)) _ _ _ rfl rfl rfl
    | u :: u' :: U', v :: v' :: V', h1, h2 =>
      have g1 : 2 ≤ (u :: u' :: U').length := by simp
      have g2 : 2 ≤ (v :: v' :: V').length := by simp
      generalize u :: u' :: U' = U at *
      generalize v :: v' :: V' = V at *
      have w1 : IntKind.i64.wrap (((P.length + U.length : Nat) : Int) - ((P.length : Nat) : Int)) = ((U.length : Nat) : Int) := by rw [wrap_eq (by omega) (by omega)]; omega
      have w2 : IntKind.i64.wrap (((P.length + U.length + V.length : Nat) : Int) - ((P.length + U.length : Nat) : Int)) = ((V.length : Nat) : Int) := by rw [wrap_eq (by omega) (by omega)]; omega
      by_cases hm : P.length + U.length > (P.length + (P.length + U.length + V.length)) / 2
      · obtain ⟨W, a1, a2, a3⟩ := c72_main X hX k ih N P U V S hk g1 g2 hN h hz hU hV hi ((P.length + (P.length + U.length + V.length)) / 2) ((P.length + (P.length + U.length + V.length)) / 2 + (P.length + U.length) - (P.length + U.length + V.length)) ((P.length + (P.length + U.length + V.length)) / 2) rfl (by omega) (by omega) (by omega) (by omega) (by omega) (by omega) (by omega)
        refine ⟨W, a1, a2, run_of (hX _ rfl) ?_⟩
        have w3 : IntKind.i64.wrap ((((P.length + (P.length + U.length + V.length)) / 2 : Nat) : Int) + ((P.length + U.length : Nat) : Int)) = (((P.length + (P.length + U.length + V.length)) / 2 + (P.length + U.length) : Nat) : Int) := by rw [wrap_eq (by omega) (by omega)]; omega
        have w4 : IntKind.i64.wrap ((((P.length + (P.length + U.length + V.length)) / 2 + (P.length + U.length) : Nat) : Int) - 1) = (((P.length + (P.length + U.length + V.length)) / 2 + (P.length + U.length) - 1 : Nat) : Int) := by rw [wrap_eq (by omega) (by omega)]; omega
        have w5 : IntKind.i64.wrap ((((P.length + (P.length + U.length + V.length)) / 2 + (P.length + U.length) : Nat) : Int) - ((P.length + U.length + V.length : Nat) : Int)) = (((P.length + (P.length + U.length + V.length)) / 2 + (P.length + U.length) - (P.length + U.length + V.length) : Nat) : Int) := by rw [wrap_eq (by omega) (by omega)]; omega
        rw [e72, half (by omega), w1, w2, w3, w4, w5]
        refine condF (show (((U.length : Nat) : Int) == 1) = false by simp; omega) (condF (show (((V.length : Nat) : Int) == 1) = false by simp; omega) ?_)
        exact condP (show ((P.length + U.length : Nat) : Int) > (((P.length + (P.length + U.length + V.length)) / 2 : Nat) : Int) by omega) a3
      · obtain ⟨W, a1, a2, a3⟩ := c72_main X hX k ih N P U V S hk g1 g2 hN h hz hU hV hi ((P.length + (P.length + U.length + V.length)) / 2) P.length (P.length + U.length) rfl (by omega) (by omega) (by omega) (by omega) (by omega) (by omega) (by omega)
        refine ⟨W, a1, a2, run_of (hX _ rfl) ?_⟩
        have w3 : IntKind.i64.wrap ((((P.length + (P.length + U.length + V.length)) / 2 : Nat) : Int) + ((P.length + U.length : Nat) : Int)) = (((P.length + (P.length + U.length + V.length)) / 2 + (P.length + U.length) : Nat) : Int) := by rw [wrap_eq (by omega) (by omega)]; omega
        have w4 : IntKind.i64.wrap ((((P.length + (P.length + U.length + V.length)) / 2 + (P.length + U.length) : Nat) : Int) - 1) = (((P.length + (P.length + U.length + V.length)) / 2 + (P.length + U.length) - 1 : Nat) : Int) := by rw [wrap_eq (by omega) (by omega)]; omega
        rw [e72, half (by omega), w1, w2, w3, w4]
        refine condF (show (((U.length : Nat) : Int) == 1) = false by simp; omega) (condF (show (((V.length : Nat) : Int) == 1) = false by simp; omega) ?_)
        exact condNP (show ¬ ((P.length + U.length : Nat) : Int) > (((P.length + (P.length + U.length + V.length)) / 2 : Nat) : Int) by omega) a3
theorem c72 (N : Nat) (P U V S : List Sp) (h1 : 1 ≤ U.length) (h2 : 1 ≤ V.length) (hN : (P ++ (U ++ V) ++ S).length = N) (h : N ≤ 100000) (hz : ZB (U ++ V)) (hU : SL U) (hV : SL V) (hi : ∀ u ∈ U, ∀ v ∈ V, u.i < v.i) : Mrg X N P U V S :=
  c72_all X hX _ N P U V S (Nat.le_refl _) h1 h2 hN h hz hU hV hi
end
end Go.Skm.Drw
