/-
  The known answers come out; condition: the library's answers.
-/
import Derived.Test.YtdhkklplijleiaaDoorCt23
namespace Go.Skm.Beat
open Go Go.Skm

theorem smp_v : Valid smp := valid_of smp_valid
theorem smp_tick {t r : Int} {p : Int × Int} (h0 : 0 ≤ t ∧ t ≤ 3600000) (h : IsTick smp t r) (hp : TickP smp t p) : p = (r, 0) := by
  refine hp.unique ?_
  unfold TickP
  rw [if_pos smp_valid, if_pos h0]
  exact ⟨rfl, h⟩
theorem smp_near {t : Int} {k : Nat} {p : Int × Int} (h0 : 0 ≤ t ∧ t ≤ 3600000) (h : IsNear (gT smp 480) (gN 480) t k) (hp : NearP smp t 480 p) : p = (((k * 480 : Nat) : Int), 0) := by
  refine hp.unique ?_
  unfold NearP
  have hT : Top = 4194304 := rfl
  rw [if_pos ⟨smp_valid, by omega, by omega⟩, if_pos h0]
  exact ⟨rfl, k, h, rfl⟩
theorem g0 : gT smp 480 0 = 0 := by decide +kernel
theorem g1 : gT smp 480 1 = 500 := by decide +kernel
theorem g2 : gT smp 480 2 = 1000 := by decide +kernel
theorem g3 : gT smp 480 3 = 1250 := by decide +kernel
theorem g_ge {i j : Nat} (h : i ≤ j) : gT smp 480 i ≤ gT smp 480 j := gT_mono smp_v 480 i j h
theorem near1 {t : Int} (h1 : 700 ≤ t) (h2 : t ≤ 750) : IsNear (gT smp 480) (gN 480) t 1 := by
  have q0 := g0
  have q1 := g1
  have q2 := g2
  refine ⟨by decide, fun j hj => ?_, fun j hj => ?_⟩
  · have : j = 0 ∨ j = 1 ∨ 2 ≤ j := by omega
    rcases this with rfl | rfl | h
    · unfold dst; split <;> split <;> omega
    · exact Int.le_refl _
    · have := g_ge h
      unfold dst; split <;> split <;> omega
  · have : j = 0 := by omega
    subst this
    unfold dst; split <;> split <;> omega
theorem near2 : IsNear (gT smp 480) (gN 480) 751 2 := by
  have q0 := g0
  have q1 := g1
  have q2 := g2
  have q3 := g3
  refine ⟨by decide, fun j hj => ?_, fun j hj => ?_⟩
  · have : j = 0 ∨ j = 1 ∨ j = 2 ∨ 3 ≤ j := by omega
    rcases this with rfl | rfl | rfl | h
    · unfold dst; split <;> split <;> omega
    · unfold dst; split <;> split <;> omega
    · exact Int.le_refl _
    · have := g_ge h
      unfold dst; split <;> split <;> omega
  · have : j = 0 ∨ j = 1 := by omega
    rcases this with rfl | rfl <;> unfold dst <;> split <;> split <;> omega
theorem grid_smp' (n : Nat) : gD smp 480 500 1250 (n + 1 + 1 + 1 + 1) 0 = [.agg [.int .i64 480, .int .i64 500], .agg [.int .i64 960, .int .i64 1000]] := by
  have e0 := g0
  have e1 := g1
  have e2 := g2
  have e3 := g3
  rw [gD, if_neg (by omega), if_neg (by omega), gD]
  simp only [Nat.zero_add]
  rw [if_neg (by omega), if_pos (by omega), gD]
  simp only [Nat.reduceAdd]
  rw [if_neg (by omega), if_pos (by omega), gD]
  simp only [Nat.reduceAdd]
  rw [if_pos (by omega), gE, gE, e1, e2]
  rfl
theorem grid_smp : gridL smp 500 1250 480 = [.agg [.int .i64 480, .int .i64 500], .agg [.int .i64 960, .int .i64 1000]] := by
  unfold gridL
  have e : gN 480 + 1 = 8735 + 1 + 1 + 1 + 1 := by decide
  rw [e]
  exact grid_smp' 8735
section
variable (X : Ext) (hX : Mine X)
include hX

theorem known_end (hT : Texts X) (a : Int) (l : List PV) (b c : Int) (q : Bool) : L tab (run tab X) 11 [] [.rg [1, 1, 1, 1, 1, 1, 1, 1, 1, 1, 1, 1, 1, 1, 1, 1, 1, 1, 0, 1, 0] [(false, [.int .i64]), (false, [.int .i64])] []] (S11_111111111111111111010 a l b c q 2) = some ([.p (.bool true)], []) := by
  have r24 : run tab X 24 [.p (.int .i64 1000), .p (.int .i64 2)] [] = some (barV 2 1 40 0) := (c24 X hX _ _).trans (congrArg some (by rfl))
  have r28 : run tab X 28 [.p (.int .i64 2), .p (.int .i64 1), .p (.int .i64 40), .p (.int .i64 2)] [] = some (pairR (1000, 0)) := (c28 X hX _ _ _ _).trans (congrArg (fun p => some (pairR p)) (by decide +kernel))
  have r28' : run tab X 28 [.p (.int .i64 1), .p (.int .i64 3), .p (.int .i64 0), .p (.int .i64 2)] [] = some (pairR (0, 3)) := (c28 X hX _ _ _ _).trans (congrArg (fun p => some (pairR p)) (by decide +kernel))
  have r26 : run tab X 26 [.p (.int .i64 1000), .p (.int .i64 2)] [] = some ([.p (.str ⟨#[50, 46, 49, 46, 52, 48]⟩), .p (.int .i64 0)], []) := by
    rw [c26 X hX hT, textR, if_pos (by decide)]
    have : txtOf 1000 2 = [50, 46, 49, 46, 52, 48] := by decide +kernel
    rw [this]; rfl
  obtain ⟨p, p1, p2⟩ := c30 X hX hT [50, 46, 49, 46, 48, 52, 48] (by decide) 2
  have hp : p = (0, 6) := by
    refine p1.unique (readEnd_parse [50, 46, 49, 46, 48, 52, 48] (beats := 2) (by decide) |> fun h => ?_)
    have e : readEnd 2 (nums (splitC 46 [50, 46, 49, 46, 48, 52, 48])) = (0, 6) := by decide +kernel
    rwa [e] at h
  rw [hp] at p2
  have r30 : run tab X 30 [.p (.str ⟨#[50, 46, 49, 46, 48, 52, 48]⟩), .p (.int .i64 2)] [] = some (pairR (0, 6)) := p2
  have r33 := c33 X hX 1000 0 1000
  rw [e11_111111111111111111010_nil, r24]
  simp only [barV, Option.bind_some, List.headD_cons, List.tail_cons, pv_p, toInt_int]
  rw [r28, r28', r26, r30]
  simp only [pairR, Option.bind_some, List.headD_cons, List.tail_cons, pv_p, toInt_int, r33, toStr_str, beq_self_eq_true]
  rfl
theorem known (hT : Texts X) : Known X :=
  run_of (hX _ (by decide) (by decide) (by decide)) (by
    have hl : smp.length ≤ maxLen := by decide
    have r14 : run tab X 14 [.p (.list true [.int .i64, .int .i64] (encM smp)), .p (.int .i64 1)] [] = some (pairR (500000, 0)) := by
      have := c14 X hX smp hl 1; rwa [show exactR smp 1 = (500000, 0) by decide +kernel] at this
    have r15 : ∀ t r : Int, timeR smp t = (r, 0) → run tab X 15 [.p (.list true [.int .i64, .int .i64] (encM smp)), .p (.int .i64 t)] [] = some (pairR (r, 0)) := by
      intro t r h
      have := c15 X hX smp hl t; rwa [h] at this
    have r16 : ∀ t r : Int, (0 ≤ t ∧ t ≤ 3600000) → IsTick smp t r → run tab X 16 [.p (.list true [.int .i64, .int .i64] (encM smp)), .p (.int .i64 t)] [] = some (pairR (r, 0)) := by
      intro t r h0 h
      obtain ⟨p, p1, p2⟩ := c16 X hX smp hl t
      rw [smp_tick h0 h p1] at p2
      exact p2
    have r17 : ∀ (t : Int) (k : Nat), (0 ≤ t ∧ t ≤ 3600000) → IsNear (gT smp 480) (gN 480) t k → run tab X 17 [.p (.list true [.int .i64, .int .i64] (encM smp)), .p (.int .i64 t), .p (.int .i64 480)] [] = some (pairR (((k * 480 : Nat) : Int), 0)) := by
      intro t k h0 h
      obtain ⟨p, p1, p2⟩ := c17 X hX smp hl t 480
      rw [smp_near h0 h p1] at p2
      exact p2
    have r22 : run tab X 22 [.p (.list true [.int .i64, .int .i64] (encM smp)), .p (.int .i64 500), .p (.int .i64 1250), .p (.int .i64 480)] [] = _ := c22_ok X hX smp hl 500 1250 480 (by decide +kernel) (by decide) (by decide)
    have r47 := c47 X hX smp_v (s := 480) (by decide) (by decide) 500 1250
    rw [e11, c32 X hX]
    simp only [Option.bind_some, List.headD_cons, freshList_fresh, List.drop_zero, List.take_length]
    rw [r14, r15 1 1 (by decide +kernel), r15 960 1000 (by decide +kernel), r15 961 1001 (by decide +kernel), r15 1440 1250 (by decide +kernel)]
    rw [r16 0 0 (by decide) ⟨by decide, by decide, by decide +kernel, .inr (by decide +kernel)⟩, r16 1000 960 (by decide) ⟨by decide, by decide, by decide +kernel, .inr (by decide +kernel)⟩, r16 1250 1440 (by decide) ⟨by decide, by decide, by decide +kernel, .inr (by decide +kernel)⟩]
    rw [r17 700 1 (by decide) (near1 (by decide) (by decide)), r17 750 1 (by decide) (near1 (by decide) (by decide)), r17 751 2 (by decide) near2, r22]
    simp only [pairR, Option.bind_some, List.headD_cons, List.tail_cons, pv_p, toInt_int, c33 X hX, toBool_bool]
    change (bif false then _ else (run tab X 47 [.yld, .p (.ref [.int .i64 ((480 : Nat) : Int)]), .p (.ref [.list true [.int .i64, .int .i64] (encM smp)]), .p (.ref [.int .i64 500]), .p (.ref [.int .i64 1250])] [.log true []]).bind _) = _
    rw [r47, cond_false, Option.bind_some]
    change L tab (run tab X) 11 [] [.rg _ _ (gridL smp 500 1250 480)] _ = _
    rw [grid_smp, e11_111111111111111111010_cons, e11_111111111111111111010_cons]
    exact known_end X hX hT _ _ _ _ _)
end
end Go.Skm.Beat
