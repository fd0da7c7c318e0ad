/-
  The examples of the chapter; condition: the sorting function is as said.
-/
import Derived.Test.YthdegeidcjdkeaaMa5
namespace Go.Skm.Hull
open Go Go.Skm

def insV (p : V3) : List V3 → List V3
  | [] => [p]
  | q :: r => if cmpV p q ≤ 0 then p :: q :: r else q :: insV p r
def isort : List V3 → List V3
  | [] => []
  | p :: r => insV p (isort r)
theorem insV_perm (p : V3) : ∀ l : List V3, (insV p l).Perm (p :: l)
  | [] => List.Perm.refl _
  | q :: r => by
    unfold insV
    split
    · exact List.Perm.refl _
    · exact ((insV_perm p r).cons q).trans (List.Perm.swap p q r)
theorem isort_perm : ∀ l : List V3, (isort l).Perm l
  | [] => List.Perm.refl _
  | p :: r => (insV_perm p _).trans ((isort_perm r).cons p)
theorem cmpV_tot {a b : V3} (h : ¬ cmpV a b ≤ 0) : cmpV b a ≤ 0 := by
  rw [cmpV_le] at *
  omega
theorem insV_sorted (p : V3) : ∀ {l : List V3}, (l.Pairwise fun a b => cmpV a b ≤ 0) → (insV p l).Pairwise fun a b => cmpV a b ≤ 0
  | [], _ => List.pairwise_singleton _ _
  | q :: r, h => by
    have h1 := List.pairwise_cons.1 h
    unfold insV
    split
    · rename_i hpq
      refine List.pairwise_cons.2 ⟨fun v hv => ?_, h⟩
      rcases List.mem_cons.1 hv with rfl | hv
      · exact hpq
      · exact cmpV_trans hpq (h1.1 v hv)
    · rename_i hpq
      refine List.pairwise_cons.2 ⟨fun v hv => ?_, insV_sorted p h1.2⟩
      rcases List.mem_cons.1 ((insV_perm p r).mem_iff.1 hv) with rfl | hv
      · exact cmpV_tot hpq
      · exact h1.1 v hv
theorem isort_sorted : ∀ l : List V3, (isort l).Pairwise fun a b => cmpV a b ≤ 0
  | [] => List.Pairwise.nil
  | p :: r => insV_sorted p (isort_sorted r)
theorem srt_unique {l s : List V3} (h1 : s.Perm l) (h2 : s.Pairwise fun a b => cmpV a b ≤ 0) : srt l = s :=
  List.Perm.eq_of_pairwise (fun _a _b _ _ => cmpV_anti) (srt_sorted l) h2 ((srt_perm l).trans h1.symm)
theorem srt_eq (l : List V3) : srt l = isort l := srt_unique (isort_perm l) (isort_sorted l)
def flatI (l : List V3) : List V3 := comp (isort (l.map flatV))
def hullI (l : List V3) : List V3 × Int := if l.length > 10000 then ([], 2) else if ptsB l = true then (if l.length = 0 then ([], 9) else (if (flatI l).length = 1 then flatI l else (chainL (flatI l)).dropLast ++ (chainL (flatI l).reverse).dropLast, 0)) else ([], 2)
theorem hullF_eq (l : List V3) : hullF l = hullI l := by
  have : flatS l = flatI l := by unfold flatS flatI; rw [srt_eq]
  unfold hullF hullI hullC
  rw [this]

theorem take_all (l : List V3) : List.take (encL l).length (List.drop 0 (encL l)) = encL l := by
  rw [List.drop_zero, List.take_of_length_le (Nat.le_refl _)]
theorem take_all' (l : List V3) : List.take l.length (List.drop 0 (encL l)) = encL l := by
  rw [List.drop_zero, List.take_of_length_le (by simp)]
theorem condNb {α : Type} (a b : α) : cond (!true) a b = b := rfl

section
variable (X : Ext) (hX : ∀ f, f ≠ 30 → X f = none) (hS : SortOk X)
include hX hS

theorem c9 : run tab X 9 [] [] = some ([.p (.bool true)], []) := by
  have hsq : hullF (pts [0, 0, 2, 0, 2, 2, 0, 2]) = (pts [0, 0, 2, 0, 2, 2, 0, 2], 0) := by rw [hullF_eq]; decide +kernel
  have hln : hullF (pts [1, 1, 3, 3]) = (pts [1, 1, 3, 3], 0) := by rw [hullF_eq]; decide +kernel
  have hv1 : hullV (pts [0, 0, 2, 0, 2, 2, 0, 2]) = true := by unfold hullV; rw [hsq]; decide
  have hv2 : hullV (pts [1, 1, 3, 3]) = true := by unfold hullV; rw [hln]; decide
  have hv3 : hullV (pts [0, 0, 0, 2, 2, 2]) = false := by
    unfold hullV; rw [hullF_eq]; decide +kernel
  have h1 : hullF (pts [0, 0, 2, 0, 1, 1, 2, 2, 0, 2, 1, 0]) = (pts [0, 0, 2, 0, 2, 2, 0, 2], 0) := by rw [hullF_eq]; decide +kernel
  have h2 : hullF (pts [3, 3, 1, 1, 2, 2]) = (pts [1, 1, 3, 3], 0) := by rw [hullF_eq]; decide +kernel
  have h3 : hullF (pts [5, 5, 5, 5]) = (pts [5, 5], 0) := by rw [hullF_eq]; decide +kernel
  have hm : mergeF (pts [0, 0, 2, 0, 2, 2, 0, 2]) (pts [1, 1, 3, 3]) = (pts [0, 0, 2, 0, 3, 3, 0, 2], 0) := by
    unfold mergeF
    rw [if_pos hv1, if_pos hv2, hullF_eq]; decide +kernel
  have s1 : sideP (pts [0, 0, 2, 0, 2, 2, 0, 2]) ⟨1, 1, 0⟩ = (1, 0) := by unfold sideP; rw [if_pos ⟨hv1, by decide⟩]; decide +kernel
  have s2 : sideP (pts [0, 0, 2, 0, 2, 2, 0, 2]) ⟨2, 1, 0⟩ = (0, 0) := by unfold sideP; rw [if_pos ⟨hv1, by decide⟩]; decide +kernel
  have s3 : sideP (pts [0, 0, 2, 0, 2, 2, 0, 2]) ⟨3, 1, 0⟩ = (-1, 0) := by unfold sideP; rw [if_pos ⟨hv1, by decide⟩]; decide +kernel
  have s4 : sideP (pts [1, 1, 3, 3]) ⟨2, 2, 0⟩ = (0, 0) := by unfold sideP; rw [if_pos ⟨hv2, by decide⟩]; decide +kernel
  have ar : areaP (pts [0, 0, 2, 0, 2, 2, 0, 2]) = (8, 0) := by unfold areaP; rw [if_pos hv1]; decide +kernel
  have di : diaP (pts [0, 0, 2, 0, 2, 2, 0, 2]) = ((0, 2, 8), 0) := by unfold diaP; rw [if_pos hv1]; decide +kernel
  have ex : extP (pts [0, 0, 2, 0, 2, 2, 0, 2]) ⟨1, 1, 0⟩ = ((0, 4), 0) := by unfold extP; rw [if_pos ⟨hv1, by decide⟩]; decide +kernel
  have q0 : run tab X 27 [.p (.list false [.int .i64] [.int .i64 0, .int .i64 0, .int .i64 2, .int .i64 0, .int .i64 2, .int .i64 2, .int .i64 0, .int .i64 2])] [] = some ([.fresh true kV (encL (pts [0, 0, 2, 0, 2, 2, 0, 2]))], []) := c27 X hX [0, 0, 2, 0, 2, 2, 0, 2] (by decide)
  have q1 : run tab X 27 [.p (.list false [.int .i64] [.int .i64 1, .int .i64 1, .int .i64 3, .int .i64 3])] [] = some ([.fresh true kV (encL (pts [1, 1, 3, 3]))], []) := c27 X hX [1, 1, 3, 3] (by decide)
  have q2 : run tab X 27 [.p (.list false [.int .i64] [.int .i64 0, .int .i64 0, .int .i64 2, .int .i64 0, .int .i64 1, .int .i64 1, .int .i64 2, .int .i64 2, .int .i64 0, .int .i64 2, .int .i64 1, .int .i64 0])] [] = some ([.fresh true kV (encL (pts [0, 0, 2, 0, 1, 1, 2, 2, 0, 2, 1, 0]))], []) := c27 X hX [0, 0, 2, 0, 1, 1, 2, 2, 0, 2, 1, 0] (by decide)
  have q3 : run tab X 27 [.p (.list false [.int .i64] [.int .i64 3, .int .i64 3, .int .i64 1, .int .i64 1, .int .i64 2, .int .i64 2])] [] = some ([.fresh true kV (encL (pts [3, 3, 1, 1, 2, 2]))], []) := c27 X hX [3, 3, 1, 1, 2, 2] (by decide)
  have q4 : run tab X 27 [.p (.list false [.int .i64] [.int .i64 5, .int .i64 5, .int .i64 5, .int .i64 5])] [] = some ([.fresh true kV (encL (pts [5, 5, 5, 5]))], []) := c27 X hX [5, 5, 5, 5] (by decide)
  have q5 : run tab X 27 [.p (.list false [.int .i64] [.int .i64 5, .int .i64 5])] [] = some ([.fresh true kV (encL (pts [5, 5]))], []) := c27 X hX [5, 5] (by decide)
  have q6 : run tab X 27 [.p (.list false [.int .i64] [.int .i64 1, .int .i64 1, .int .i64 2, .int .i64 1, .int .i64 3, .int .i64 1])] [] = some ([.fresh true kV (encL (pts [1, 1, 2, 1, 3, 1]))], []) := c27 X hX [1, 1, 2, 1, 3, 1] (by decide)
  have q7 : run tab X 27 [.p (.list false [.int .i64] [.int .i64 2, .int .i64 2])] [] = some ([.fresh true kV (encL (pts [2, 2]))], []) := c27 X hX [2, 2] (by decide)
  have q8 : run tab X 27 [.p (.list false [.int .i64] [.int .i64 1, .int .i64 1])] [] = some ([.fresh true kV (encL (pts [1, 1]))], []) := c27 X hX [1, 1] (by decide)
  have q9 : run tab X 27 [.p (.list false [.int .i64] [.int .i64 0, .int .i64 0, .int .i64 2, .int .i64 0, .int .i64 3, .int .i64 3, .int .i64 0, .int .i64 2])] [] = some ([.fresh true kV (encL (pts [0, 0, 2, 0, 3, 3, 0, 2]))], []) := c27 X hX [0, 0, 2, 0, 3, 3, 0, 2] (by decide)
  have q10 : run tab X 27 [.p (.list false [.int .i64] [.int .i64 0, .int .i64 0, .int .i64 0, .int .i64 2, .int .i64 2, .int .i64 2])] [] = some ([.fresh true kV (encL (pts [0, 0, 0, 2, 2, 2]))], []) := c27 X hX [0, 0, 0, 2, 2, 2] (by decide)
  have t1 := c14 X hX hS (pts [0, 0, 2, 0, 2, 2, 0, 2]) ⟨1, 1, 0⟩
  have t2 := c14 X hX hS (pts [0, 0, 2, 0, 2, 2, 0, 2]) ⟨2, 1, 0⟩
  have t3 := c14 X hX hS (pts [0, 0, 2, 0, 2, 2, 0, 2]) ⟨3, 1, 0⟩
  have t4 := c14 X hX hS (pts [1, 1, 3, 3]) ⟨2, 2, 0⟩
  have t5 := c21 X hX hS (pts [0, 0, 2, 0, 2, 2, 0, 2]) ⟨1, 1, 0⟩
  simp only [encV] at t1 t2 t3 t4 t5
  refine run_of (hX _ (by decide)) ?_
  rw [e9]
  have l11 : ∀ a b : List V3, a.length ≤ 100 → run tab X 11 [.p (.list true kV (encL a)), .p (.list true kV (encL b))] [] = some ([.p (.bool (decide (a = b)))], []) := fun a b h => c11 X hX a b (by omega)
  simp only [q0, q1, q2, q3, q4, q5, q6, Option.bind_some, List.headD_cons, List.tail_cons, freshList_fresh, take_all, c10 X hX hS, h1, h2, h3]
  rw [l11 _ _ (by decide)]
  simp only [Option.bind_some, List.headD_cons, pv_p, toBool_bool, toInt_int, decide_true, condNb]
  rw [l11 _ _ (by decide)]
  simp only [Option.bind_some, List.headD_cons, pv_p, toBool_bool, decide_true, condNb]
  rw [l11 _ _ (by decide)]
  simp only [Option.bind_some, List.headD_cons, pv_p, toBool_bool, decide_true, condNb]
  have nn : ∀ {α : Type} (a b : α), cond ((0 : Int) != 0) a b = b := fun a b => rfl
  simp only [nn]
  have w1 : IntKind.i64.wrap (0 + 1) = 1 := by decide
  have w2 : IntKind.i64.wrap (1 + 1) = 2 := by decide
  have w3 : IntKind.i64.wrap (2 + 1) = 3 := by decide
  have z1 : (pts [1, 1, 2, 1, 3, 1]).length = 3 := rfl
  have z2 : (pts [2, 2]).length = 1 := rfl
  have z3 : (pts [1, 1]).length = 1 := rfl
  have i0 : (0 : Int).toNat = 0 := rfl
  have i1 : (1 : Int).toNat = 1 := rfl
  have i2 : (2 : Int).toNat = 2 := rfl
  have a0 : (pts [1, 1, 2, 1, 3, 1]).getD 0 default = ⟨1, 1, 0⟩ := rfl
  have a1 : (pts [1, 1, 2, 1, 3, 1]).getD 1 default = ⟨2, 1, 0⟩ := rfl
  have a2 : (pts [1, 1, 2, 1, 3, 1]).getD 2 default = ⟨3, 1, 0⟩ := rfl
  have a3 : (pts [2, 2]).getD 0 default = ⟨2, 2, 0⟩ := rfl
  have a4 : (pts [1, 1]).getD 0 default = ⟨1, 1, 0⟩ := rfl
  have b0 : ((([.int .i64 1, .int .i64 0, .int .i64 (-1)] : List PV).getD 0 .nil).cell 0).toInt = 1 := rfl
  have b1 : ((([.int .i64 1, .int .i64 0, .int .i64 (-1)] : List PV).getD 1 .nil).cell 0).toInt = 0 := rfl
  have b2 : ((([.int .i64 1, .int .i64 0, .int .i64 (-1)] : List PV).getD 2 .nil).cell 0).toInt = -1 := rfl
  simp only [s1, s2, s3, s4] at t1 t2 t3 t4
  simp only [ex] at t5
  refine L_of ?_
  rw [e9_1111111010]
  simp only [condD, condA, encL_length, z1, take_all', Nat.zero_add, i0, encL_x, encL_y, encL_z, a0]
  rw [if_pos (by decide), if_pos (by decide), if_pos (by decide)]
  simp only [t1, Option.bind_some, List.headD_cons, List.tail_cons, pv_p, toInt_int, b0]
  rw [if_pos (by decide), if_pos (by decide)]
  change L tab (run tab X) 9 [] _ (S9_1111111010 _ _ _ _ _ _ _ _ _ (IntKind.i64.wrap (0 + 1)) _ _ _ _) = _
  rw [w1]
  refine L_of ?_
  rw [e9_1111111010]
  simp only [condD, condA, take_all', Nat.zero_add, i1, encL_x, encL_y, encL_z, a1]
  rw [if_pos (by decide), if_pos (by decide), if_pos (by decide)]
  simp only [t2, Option.bind_some, List.headD_cons, List.tail_cons, pv_p, toInt_int, b1]
  rw [if_pos (by decide), if_pos (by decide)]
  change L tab (run tab X) 9 [] _ (S9_1111111010 _ _ _ _ _ _ _ _ _ (IntKind.i64.wrap (1 + 1)) _ _ _ _) = _
  rw [w2]
  refine L_of ?_
  rw [e9_1111111010]
  simp only [condD, condA, take_all', Nat.zero_add, i2, encL_x, encL_y, encL_z, a2]
  rw [if_pos (by decide), if_pos (by decide), if_pos (by decide)]
  simp only [t3, Option.bind_some, List.headD_cons, List.tail_cons, pv_p, toInt_int, b2]
  rw [if_pos (by decide), if_pos (by decide)]
  change L tab (run tab X) 9 [] _ (S9_1111111010 _ _ _ _ _ _ _ _ _ (IntKind.i64.wrap (2 + 1)) _ _ _ _) = _
  rw [w3]
  refine L_of ?_
  rw [e9_1111111010]
  simp only [condD]
  rw [if_neg (by decide)]
  simp only [q7, q8, Option.bind_some, List.headD_cons, freshList_fresh, encL_length, z2, z3, take_all', encL_x, encL_y, encL_z, a3, a4]
  rw [if_pos (by decide)]
  simp only [t4, c19 X hX hS, c20 X hX hS, ar, di, Option.bind_some]
  rw [if_pos (by decide)]
  simp only [t5, c26 X hX hS, hm, Option.bind_some, List.headD_cons, List.tail_cons, pv_p, toInt_int]
  change ((run tab X 27 [.p (.list false [.int .i64] [.int .i64 0, .int .i64 0, .int .i64 2, .int .i64 0, .int .i64 3, .int .i64 3, .int .i64 0, .int .i64 2])] []).bind _) = _
  rw [q9]
  simp only [Option.bind_some, List.headD_cons, freshList_fresh, encL_length, take_all']
  rw [l11 _ _ (by decide)]
  simp only [Option.bind_some, List.headD_cons, pv_p, toBool_bool, decide_true, cond_true]
  change ((run tab X 27 [.p (.list false [.int .i64] [.int .i64 0, .int .i64 0, .int .i64 0, .int .i64 2, .int .i64 2, .int .i64 2])] []).bind _) = _
  rw [q10]
  simp only [Option.bind_some, List.headD_cons, freshList_fresh, encL_length, take_all', c16 X hX hS, hv3, pv_p, toBool_bool]
  rfl
end
end Go.Skm.Hull
