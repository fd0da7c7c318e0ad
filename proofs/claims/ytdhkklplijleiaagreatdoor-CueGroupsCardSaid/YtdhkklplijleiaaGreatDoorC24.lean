/-
  The library's slices.Clone of cues, answered: a list of the same cues in new memory; condition: none.
-/
import Derived.Test.YtdhkklplijleiaaGreatDoorC9
import Derived.Test.YtdhkklplijleiaaGreatDoorTabOk
import Derived.Test.YtdhkklplijleiaaGreatDoorLays
import Derived.Test.YtdhkklplijleiaaGreatDoorSkmG
set_option maxRecDepth 100000
namespace Go.Skm.Cue
open Go Go.Skm Go.Proofs Go.Shelf Go.RowKit Go.Lib
def infoB (P : Program) (t : TypeId) (n : Nat) : Bool := match P.info? t with
  | some i => (match i.zero with
    | some z => Nat.beq z.cells.size n && Nat.beq i.size n
    | none => false)
  | none => false
theorem infoB_ok {P : Program} {t : TypeId} {n : Nat} (h : infoB P t n = true) : ∃ i z, P.info? t = some i ∧ i.zero = some z ∧ i.size = n ∧ z.cells.size = n := by
  unfold infoB at h
  cases h1 : P.info? t with
  | none => rw [h1] at h; cases h
  | some i =>
    rw [h1] at h
    simp only at h
    cases h2 : i.zero with
    | none => rw [h2] at h; cases h
    | some z =>
      rw [h2] at h
      simp only [Bool.and_eq_true] at h
      exact ⟨i, z, rfl, h2, Nat.eq_of_beq_eq_true h.2, Nat.eq_of_beq_eq_true h.1⟩
def cloneF : ExtFn := fun args bl => match args, bl with
  | [.p (.list true ks xs)], [] => if (Kd.beqs ks kC && decide (xs.length ≤ 100000)) = true then some ([.fresh true kC xs], []) else none
  | _, _ => none
theorem extNone {gl : List (Nat × Obj)} : ExtOk Tryz.prog tab gl fun _ => none := fun f fi s args bl rs bl' _ h => by cases h
theorem ext1_clone {gl : List (Nat × Obj)} (hne : gl ≠ []) : ExtOk1 Tryz.prog tab gl 55 cloneF := by
  intro fi args bl rs bl' hfi h
  have hfi' : tlook tab.funcs 55 = some fi55 := by kernel_rfl
  have : fi = fi55 := by rw [hfi'] at hfi; exact (Option.some.inj hfi).symm
  subst this
  unfold cloneF at h
  split at h
  · next ks xs =>
    split at h
    · next hc =>
      simp only [Bool.and_eq_true, decide_eq_true_eq] at hc
      obtain ⟨hk, hn⟩ := hc
      have hk := Kd.beqs_eq _ _ hk
      subst hk
      cases h
      by_cases h0 : xs = []
      · subst h0
        refine ⟨⟨_, rfl⟩, by simp, fun w M β cargs hgl hpre => ?_⟩
        obtain ⟨v, rfl, hv⟩ := cargs_one hpre
        obtain ⟨base, cap, rfl⟩ : ∃ base cap, v = .slice base 0 cap := by
          cases hv with
          | list => exact ⟨_, _, rfl⟩
          | listE => exact ⟨_, _, rfl⟩
        have hu : und tab 33 = some (.slice 26) := by kernel_rfl
        have hsh : shapeT tab 26 = (true, kC) := by kernel_rfl
        have ht : fi55.fn.resultTypes = #[33] := by kernel_rfl
        have fin : ∀ (v' : Value) (w' : World), w'.ownsRow w.heap.size 26 6 v' 0 [] → Below w.heap.size w w' → ∃ cs ps M', Ending.returned v' = .returned (wrapV cs) ∧ CallPost gl tab fi55 w M β [] [.fresh true kC []] [] w' M' cs ps := by
          intro v' w' ho hb
          obtain ⟨ps, p1, p2⟩ := resL_none (T := tab) (fi := fi55) (β := β) (h := look (initHeap 0 [])) rfl ht hu hsh ho
          exact ⟨[v'], ps, M, rfl, post_grow hpre hb (fun e => absurd e hne) p1 p2⟩
        cases base with
        | none =>
          refine (AnyE.slices_Clone_nil Tryz.laysClone 0 cap w).mono fun e w' ⟨he, hw⟩ => ?_
          subst hw
          subst he
          exact fin _ _ ⟨rfl, .inl ⟨rfl, rfl⟩⟩ (Below.refl _ _)
        | some a =>
          obtain ⟨i0, z, k1, k2, k3, k4⟩ := infoB_ok (P := Tryz.prog) (t := 26) (n := 6) (by kernel_rfl)
          refine (clone_zero Tryz.laysClone i0 z 6 i0.bytes k1 k2 k3 rfl k4 (by decide) (fun w => Tryz.sizeOf26 w) a cap w).mono fun e w' ⟨v', he, ho, hb⟩ => ?_
          subst he
          exact fin _ _ ho hb
      · have hr : run tab (fun _ => none) 55 [.p (.list true kC xs)] [] = some ([.fresh true kC xs], []) := run_of rfl (by
          rw [e55]
          refine condT (by rw [Nat.blt_eq]; exact List.length_pos_iff.2 h0) ?_
          refine condP (show 0 + xs.length ≤ 2147483648 by omega) ?_
          rw [List.nil_append, List.drop_zero, List.take_of_length_le (by omega)])
        have key := run_sound tabOk (extNone (gl := gl)) 55 fi55 _ [] _ [] hfi' (by simp) hr
        exact ⟨key.1, by simp, key.2⟩
    · cases h
  · cases h
end Go.Skm.Cue
