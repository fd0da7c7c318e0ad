/-
  Swapping and rotating parts of a row of spots; condition: lengths that fit.
-/
import Derived.Test.YtidoclepnecnbaaGreatDoorD5
namespace Go.Skm.Drw
open Go Go.Skm
abbrev etaS (x : PV) : PV := PV.agg [.int .i64 ((x.cell 0).toInt), .int .i64 ((x.cell 1).toInt), .int .i64 ((x.cell 2).toInt), .int .i64 ((x.cell 3).toInt), .int .i64 ((x.cell 4).toInt)]
abbrev rowB (B : List Sp) : List Blk := [.arr true kS (encT B)]
theorem etaS_get {B : List Sp} {i : Nat} (h : i < B.length) : etaS ((encT B).getD i .nil) = encS B[i] := by rw [encT_getD B h]; rfl
theorem encT_swap (A C D : List Sp) (u v : Sp) {i j : Nat} (hi : i = A.length) (hj : j = A.length + 1 + C.length) :
    ((encT (A ++ u :: (C ++ v :: D))).set i (etaS ((encT (A ++ u :: (C ++ v :: D))).getD j .nil))).set j (etaS ((encT (A ++ u :: (C ++ v :: D))).getD i .nil)) = encT (A ++ v :: (C ++ u :: D)) := by
  subst hi hj
  have g1 : (A ++ u :: (C ++ v :: D))[A.length]? = some u := by simp
  have g2 : (A ++ u :: (C ++ v :: D))[A.length + 1 + C.length]? = some v := by
    rw [List.getElem?_append_right (by omega), show A.length + 1 + C.length - A.length = C.length + 1 by omega]
    simp
  have l1 : A.length < (A ++ u :: (C ++ v :: D)).length := by simp
  have l2 : A.length + 1 + C.length < (A ++ u :: (C ++ v :: D)).length := by simp; omega
  rw [etaS_get l1, etaS_get l2]
  have e1 : (A ++ u :: (C ++ v :: D))[A.length] = u := by
    rw [List.getElem?_eq_getElem l1] at g1; exact Option.some.inj g1
  have e2 : (A ++ u :: (C ++ v :: D))[A.length + 1 + C.length] = v := by
    rw [List.getElem?_eq_getElem l2] at g2; exact Option.some.inj g2
  rw [e1, e2]
  simp only [encT, List.map_append, List.map_cons]
  rw [List.set_append_right _ _ (by simp), List.set_append_right _ _ (by simp; omega)]
  simp only [List.length_map, Nat.sub_self, List.set_cons_zero]
  rw [show A.length + 1 + C.length - A.length = C.length + 1 by omega, List.set_cons_succ, List.set_append_right _ _ (by simp)]
  simp
theorem encT_swap' (A C D : List Sp) (u v : Sp) {i j : Nat} (hi : i = A.length) (hj : j = A.length + 1 + C.length) :
    ((encT (A ++ u :: (C ++ v :: D))).set j (etaS ((encT (A ++ u :: (C ++ v :: D))).getD i .nil))).set i (etaS ((encT (A ++ u :: (C ++ v :: D))).getD j .nil)) = encT (A ++ v :: (C ++ u :: D)) := by
  rw [List.set_comm _ _ (by omega)]
  exact encT_swap A C D u v hi hj
section
variable (X : Ext)
theorem c101_loop (P M S D0 : List Sp) (N : Nat) (hN : N ≤ 100000) (n : Nat) : ∀ (U2 V2 U1 V1 : List Sp), U1.length = V1.length → U2.length = V2.length → V1.length + U2.length = n → (P ++ (V1 ++ U2) ++ M ++ (U1 ++ V2) ++ S).length = N →
    L tab (run tab X) 101 (rowB D0) [.lp [1, 0]] (S101_10 0 N ((P.length : Nat) : Int) ((P.length + n + M.length : Nat) : Int) ((n : Nat) : Int) ((V1.length : Nat) : Int) (encT (P ++ (V1 ++ U2) ++ M ++ (U1 ++ V2) ++ S))) = some ([], rowB (P ++ (V1 ++ V2) ++ M ++ (U1 ++ U2) ++ S)) := by
  intro U2
  induction U2 with
  | nil =>
    intro V2 U1 V1 h1 h2 h3 h4
    have : V2 = [] := List.eq_nil_of_length_eq_zero (by simpa using h2.symm)
    subst this
    refine L_of ?_
    rw [e101_10]
    exact condNP (show ¬ ((V1.length : Nat) : Int) < ((n : Nat) : Int) by simp at h3; omega) rfl
  | cons u U2 ih =>
    intro V2 U1 V1 h1 h2 h3 h4
    match V2, h2 with
    | v :: V2, h2 =>
      simp only [List.length_cons] at h2 h3
      have hN' := h4
      simp only [List.length_append, List.length_cons] at hN'
      have w1 : IntKind.i64.wrap (((V1.length : Nat) : Int) + 1) = ((V1.length + 1 : Nat) : Int) := by rw [wrap_eq (by omega) (by omega)]; omega
      have w2 : IntKind.i64.wrap (((P.length + n + M.length : Nat) : Int) + ((V1.length : Nat) : Int)) = ((P.length + n + M.length + V1.length : Nat) : Int) := by rw [wrap_eq (by omega) (by omega)]; omega
      have w3 : IntKind.i64.wrap (((P.length : Nat) : Int) + ((V1.length : Nat) : Int)) = ((P.length + V1.length : Nat) : Int) := by rw [wrap_eq (by omega) (by omega)]; omega
      have ih' := ih V2 (U1 ++ [u]) (V1 ++ [v]) (by simp [h1]) (by omega) (by simp; omega) (by simp at h4 ⊢; omega)
      have eA : P ++ (V1 ++ u :: U2) ++ M ++ (U1 ++ v :: V2) ++ S = (P ++ V1) ++ u :: ((U2 ++ M ++ U1) ++ v :: (V2 ++ S)) := by simp
      have eB : (P ++ V1) ++ v :: ((U2 ++ M ++ U1) ++ u :: (V2 ++ S)) = P ++ ((V1 ++ [v]) ++ U2) ++ M ++ ((U1 ++ [u]) ++ V2) ++ S := by simp
      have hs := encT_swap (P ++ V1) (U2 ++ M ++ U1) (V2 ++ S) u v (i := 0 + (P.length + V1.length)) (j := 0 + (P.length + n + M.length + V1.length)) (by simp) (by simp; omega)
      rw [eB] at hs
      refine L_of ?_
      rw [e101_10, w1, w2, w3, eA]
      have t1 : (leI 0 ((P.length + n + M.length + V1.length : Nat) : Int) && ltI ((P.length + n + M.length + V1.length : Nat) : Int) (N : Int)) = true := by
        simp only [leI, ltI, Bool.and_eq_true, decide_eq_true_eq]; omega
      have t2 : (leI 0 ((P.length + V1.length : Nat) : Int) && ltI ((P.length + V1.length : Nat) : Int) (N : Int)) = true := by
        simp only [leI, ltI, Bool.and_eq_true, decide_eq_true_eq]; omega
      refine condP (show ((V1.length : Nat) : Int) < ((n : Nat) : Int) by omega) (condT t1 (condT t2 (condT t2 (condT t1 ?_))))
      simp only [Int.toNat_natCast]
      refine Eq.trans (congrArg (fun T => L tab (run tab X) 101 (rowB D0) [.lp [1, 0]] (S101_10 0 N ((P.length : Nat) : Int) ((P.length + n + M.length : Nat) : Int) ((n : Nat) : Int) ((V1.length + 1 : Nat) : Int) T)) hs) ?_
      simp only [List.length_append, List.length_cons, List.length_nil] at ih'
      refine ih'.trans ?_
      simp
variable (hX : Mine X)
include hX
theorem c101 (P U M V S : List Sp) (n N : Nat) (hU : U.length = n) (hV : V.length = n) (hN : (P ++ U ++ M ++ V ++ S).length = N) (h : N ≤ 100000) (a b : Int) (ha : a = P.length) (hb : b = P.length + n + M.length) :
    run tab X 101 [.slice 100000 5 0 N, .p (.int .i64 a), .p (.int .i64 b), .p (.int .i64 (n : Int)), .p (.fn 32 [])] (rowB (P ++ U ++ M ++ V ++ S)) = some ([], rowB (P ++ V ++ M ++ U ++ S)) :=
  run_of (hX _ rfl) (by
    have := c101_loop X P M S (P ++ U ++ M ++ V ++ S) N h n U V [] [] rfl (by omega) (by simpa using hU) (by simpa using hN)
    rw [e101, ha, show b = ((P.length + n + M.length : Nat) : Int) by omega]
    simpa using this)
theorem c88_loop (D0 T : List Sp) (N : Nat) (hN : N ≤ 100000) : ∀ (k : Nat) (P U V S : List Sp), U.length + V.length ≤ k → 1 ≤ U.length → 1 ≤ V.length → (P ++ U ++ V ++ S).length = N → P ++ V ++ U ++ S = T →
    L tab (run tab X) 88 (rowB D0) [.lp [1, 1, 0, 0]] (S88_1100 0 N ((P.length + U.length : Nat) : Int) ((U.length : Nat) : Int) ((V.length : Nat) : Int) (encT (P ++ U ++ V ++ S))) = some ([], rowB T) := by
  intro k
  induction k with
  | zero => intro P U V S hk h1; omega
  | succ k ih =>
    intro P U V S hk h1 h2 h3 h4
    have hN' := h3
    simp only [List.length_append] at hN'
    have wm : IntKind.i64.wrap (((P.length + U.length : Nat) : Int) - ((U.length : Nat) : Int)) = ((P.length : Nat) : Int) := by rw [wrap_eq (by omega) (by omega)]; omega
    refine L_of ?_
    rw [e88_1100, wm]
    by_cases hij : U.length = V.length
    · refine condF (by simp [hij]) ?_
      have hc := c101 X hX P U [] V S U.length N rfl hij.symm (by simpa using h3) hN ((P.length : Nat) : Int) ((P.length + U.length : Nat) : Int) rfl (by simp)
      simp only [List.append_nil] at hc
      refine bindS hc ?_
      rw [← h4]
      rfl
    · refine condT (by simp; omega) ?_
      by_cases hgt : U.length > V.length
      · refine condP (show ((U.length : Nat) : Int) > ((V.length : Nat) : Int) by omega) ?_
        have eU : U = U.take V.length ++ U.drop V.length := (List.take_append_drop _ _).symm
        have l1 : (U.take V.length).length = V.length := by simp; omega
        generalize U.take V.length = U1 at l1 eU
        generalize U.drop V.length = U2 at eU
        subst eU
        simp only [List.length_append] at hgt hk hN' h1 hij
        have hc := c101 X hX P U1 U2 V S V.length N l1 rfl (by simpa using h3) hN ((P.length : Nat) : Int) ((P.length + (U1 ++ U2).length : Nat) : Int) rfl (by simp only [List.length_append]; omega)
        have hc' : run tab X 101 [.slice 100000 5 0 N, .p (.int .i64 ((P.length : Nat) : Int)), .p (.int .i64 ((P.length + (U1 ++ U2).length : Nat) : Int)), .p (.int .i64 ((V.length : Nat) : Int)), .p (.fn 32 [])] (rowB (P ++ (U1 ++ U2) ++ V ++ S)) = some ([], rowB (P ++ V ++ U2 ++ U1 ++ S)) := by
          rw [← hc]; simp
        refine bindS hc' ?_
        have ih' := ih (P ++ V) U2 U1 S (by omega) (by omega) (by omega) (by simp; omega) (by rw [← h4]; simp)
        have w2 : IntKind.i64.wrap ((((U1 ++ U2).length : Nat) : Int) - ((V.length : Nat) : Int)) = ((U2.length : Nat) : Int) := by
          simp only [List.length_append]
          rw [wrap_eq (by omega) (by omega)]; omega
        rw [w2]
        rw [show (((P ++ V).length + U2.length : Nat) : Int) = ((P.length + (U1 ++ U2).length : Nat) : Int) by simp only [List.length_append]; omega, l1] at ih'
        exact ih'
      · refine condNP (show ¬ ((U.length : Nat) : Int) > ((V.length : Nat) : Int) by omega) ?_
        have eV : V = V.take (V.length - U.length) ++ V.drop (V.length - U.length) := (List.take_append_drop _ _).symm
        have l2 : (V.drop (V.length - U.length)).length = U.length := by simp; omega
        generalize V.take (V.length - U.length) = V1 at eV
        generalize V.drop (V.length - U.length) = V2 at l2 eV
        subst eV
        simp only [List.length_append] at hgt hk hN' h2 hij
        have w3 : IntKind.i64.wrap (((P.length + U.length : Nat) : Int) + (((V1 ++ V2).length : Nat) : Int)) = ((P.length + U.length + (V1 ++ V2).length : Nat) : Int) := by
          simp only [List.length_append]
          rw [wrap_eq (by omega) (by omega)]; omega
        have w4 : IntKind.i64.wrap (((P.length + U.length + (V1 ++ V2).length : Nat) : Int) - ((U.length : Nat) : Int)) = ((P.length + (V1 ++ V2).length : Nat) : Int) := by
          simp only [List.length_append]
          rw [wrap_eq (by omega) (by omega)]; omega
        have hc := c101 X hX P U V1 V2 S U.length N rfl l2 (by simpa using h3) hN ((P.length : Nat) : Int) ((P.length + (V1 ++ V2).length : Nat) : Int) rfl (by simp only [List.length_append]; omega)
        have hc' : run tab X 101 [.slice 100000 5 0 N, .p (.int .i64 ((P.length : Nat) : Int)), .p (.int .i64 ((P.length + (V1 ++ V2).length : Nat) : Int)), .p (.int .i64 ((U.length : Nat) : Int)), .p (.fn 32 [])] (rowB (P ++ U ++ (V1 ++ V2) ++ S)) = some ([], rowB (P ++ V2 ++ V1 ++ U ++ S)) := by
          rw [← hc]; simp
        rw [w3, w4]
        refine bindS hc' ?_
        have ih' := ih P V2 V1 (U ++ S) (by omega) (by omega) (by omega) (by simp; omega) (by rw [← h4]; simp)
        have w2 : IntKind.i64.wrap ((((V1 ++ V2).length : Nat) : Int) - ((U.length : Nat) : Int)) = ((V1.length : Nat) : Int) := by
          simp only [List.length_append]
          rw [wrap_eq (by omega) (by omega)]; omega
        rw [w2]
        rw [l2, show P ++ V2 ++ V1 ++ (U ++ S) = P ++ V2 ++ V1 ++ U ++ S by simp] at ih'
        exact ih'
theorem c88 (P U V S : List Sp) (N : Nat) (h1 : 1 ≤ U.length) (h2 : 1 ≤ V.length) (hN : (P ++ U ++ V ++ S).length = N) (h : N ≤ 100000) (a m b : Int) (ha : a = P.length) (hm : m = P.length + U.length) (hb : b = P.length + U.length + V.length) :
    run tab X 88 [.slice 100000 5 0 N, .p (.int .i64 a), .p (.int .i64 m), .p (.int .i64 b), .p (.fn 32 [])] (rowB (P ++ U ++ V ++ S)) = some ([], rowB (P ++ V ++ U ++ S)) :=
  run_of (hX _ rfl) (by
    have hN' := hN
    simp only [List.length_append] at hN'
    have := c88_loop X hX (P ++ U ++ V ++ S) (P ++ V ++ U ++ S) N h (U.length + V.length) P U V S (Nat.le_refl _) h1 h2 hN rfl
    have w1 : IntKind.i64.wrap (m - a) = ((U.length : Nat) : Int) := by rw [wrap_eq (by omega) (by omega)]; omega
    have w2 : IntKind.i64.wrap (b - m) = ((V.length : Nat) : Int) := by rw [wrap_eq (by omega) (by omega)]; omega
    rw [e88, w1, w2, show m = ((P.length + U.length : Nat) : Int) by omega]
    exact this)
end
end Go.Skm.Drw
