/-
  The library's slices.SortFunc of cues, answered; and all the answers together give what the laws lean on; condition: none.
-/
import Derived.Test.YtdhkklplijleiaaGreatDoorC21
import Derived.Test.YtdhkklplijleiaaGreatDoorC23
import Derived.Test.YtdhkklplijleiaaGreatDoorC24
import Derived.Test.YtdhkklplijleiaaGreatDoorC25
import Derived.Test.YtdhkklplijleiaaGreatDoorSort
import Derived.Test.YtdhkklplijleiaaGreatDoorSkmG
set_option maxRecDepth 100000
namespace Go.Skm.Cue
open Go Go.Skm Go.Sort Go.Proofs
def decC : PV → Option Cu
  | .agg [.int .i64 t, .int .i64 f, .str g, .int .u8 r, .int .u8 e, .int .u8 b] => some ⟨t, f, g.data.toList, r, e, b⟩
  | _ => none
def sortE : SortEnc Cu where
  ks := kC
  pc v := [.int .i64 v.t, .int .i64 v.f, .str (ba v.g), .int .u8 v.r, .int .u8 v.e, .int .u8 v.b]
  dec := decC
  len _ := rfl
  flat x c hc := by
    simp only [List.mem_cons, List.not_mem_nil, or_false] at hc
    rcases hc with rfl | rfl | rfl | rfl | rfl | rfl <;> rfl
  kinds _ := rfl
  enc_dec _ := rfl
  dec_enc p x h := by
    unfold decC at h
    split at h
    · cases h
      simp only [ba_of]
    · cases h
theorem swoC' : SWO (ltOf cmpC) := swoC
def cmpX : Ext := extL [(83, cmpF)]
theorem beqN {f n : Nat} (hn : Nat.beq f n = false) : (n == f) = false := by
  rw [beq_eq_false_iff_ne]
  rintro rfl
  simp at hn
theorem cmpMine : Mine cmpX := by
  intro f h
  simp only [extB, Bool.or_eq_false_iff] at h
  obtain ⟨h1, h2, h3, h4, h5, h6, h7, h8⟩ := h
  unfold cmpX extL
  simp only [tlook, beqN h5, cond_false]
theorem cmpS_ext {X : Ext} (h : X 83 = some cmpF) : CmpS X := fun a b => run_ext (fi := fi83) (by kernel_rfl) h rfl
theorem ext1_cmp83 {gl : List (Nat × Obj)} : ExtOk1 Tryz.prog tab gl 83 cmpF := ext1_cmp (fi := fi83) Tryz.lays106 rfl (by kernel_rfl) rfl rfl (t := 3) rfl (by kernel_rfl)
theorem ext1_sortC {gl : List (Nat × Obj)} (hne : gl ≠ []) : ExtOk1 Tryz.prog tab gl 66 (sortFF sortE cmpC 54) :=
  ext1_sortFunc hne Tryz.laysSort sortE (by decide) (fun w => Tryz.isAgg26 w) (fun w => Tryz.sizeOf26 w) swoC' (enters_of Tryz.func54 (by kernel_rfl) rfl)
    (fun w x y => cmp_calls tabOk (extOk_cons ext1_cmp83 extOk_nil) (fi := fi54) (by kernel_rfl) rfl (t := 3) rfl sortE (c54 cmpX cmpMine (cmpS_ext rfl) x y) w)
    (fi := fi66) rfl (by kernel_rfl) rfl rfl rfl
def libX : Ext := extL [(71, itoaF), (38, atoiF), (37, splitF), (70, joinF), (83, cmpF), (62, sortSF), (55, cloneF), (66, sortFF sortE cmpC 54)]
theorem libMine : Mine libX := by
  intro f h
  simp only [extB, Bool.or_eq_false_iff] at h
  obtain ⟨h1, h2, h3, h4, h5, h6, h7, h8⟩ := h
  unfold libX extL
  simp only [tlook, beqN h1, beqN h2, beqN h3, beqN h4, beqN h5, beqN h6, beqN h7, beqN h8, cond_false]
theorem libTexts : Texts libX := by
  refine ⟨fun n h0 h1 => run_ext (fi := fi71) (by kernel_rfl) rfl ?_, fun l hl => run_ext (fi := fi37) (by kernel_rfl) rfl ?_, fun l hl => run_ext (fi := fi38) (by kernel_rfl) rfl ?_,
    fun a b c d e ha hb hc hd he => run_ext (fi := fi70) (by kernel_rfl) rfl ?_, cmpS_ext rfl, fun l hl => run_ext (fi := fi55) (by kernel_rfl) rfl ?_⟩
  · unfold itoaF
    simp only
    rw [if_pos ⟨h0, h1⟩]
  · unfold splitF
    show (if (ba l).size < 4294967281 then _ else none) = _
    rw [if_pos (by rw [ba_size]; omega)]
    rfl
  · unfold atoiF
    show (if (ba l).size ≤ 281474976710656 then _ else none) = _
    rw [if_pos (by rw [ba_size]; omega)]
    rfl
  · have e1 : Lib.join ([ba a, ba b, ba c, ba d, ba e].map (·.data.toList)) (⟨#[32]⟩ : ByteArray).data.toList = a ++ 32 :: (b ++ 32 :: (c ++ 32 :: (d ++ 32 :: e))) := by
      simp [Lib.join]
    unfold joinF
    simp only
    rw [e1, if_pos (by simp only [List.length_append, List.length_cons]; omega)]
  · unfold cloneF
    simp only
    rw [if_pos (by simp [Kd.beqs_refl, hl])]
theorem libSortS : SortS libX := fun l hl => ⟨sortedS l, (merge_spec l).1, (merge_spec l).2, run_ext (fi := fi62) (by kernel_rfl) rfl (by
  have hd : decS (encB l) = some l := decS_enc l
  unfold sortSF
  simp only [hd]
  rw [if_pos (by simp [argSite, hl, Kd.beqs_refl])]
  rfl)⟩
theorem libSortC : SortC libX := fun l hl => ⟨pdqL cmpC l, (pdqL_spec swoC' l).1, (pdqL_spec swoC' l).2.imp fun {a b} h => (ltC b a).symm.trans h, run_ext (fi := fi66) (by kernel_rfl) rfl (sortFF_eq sortE cmpC 54 l hl (Kd.beqs_refl _))⟩
theorem arg_ba {P : Program} {t : TypeId} (ht : shapeP P 8 t = (false, [.str])) {x : PV} (h : shapeOk (shapeP P 8 t).1 (shapeP P 8 t).2 x = true) (hw : x.wf) : ∃ g : List UInt8, x = .str (ba g) ∧ g.length ≤ maxLen := by
  obtain ⟨s, rfl⟩ := arg_str ht h
  exact ⟨s.data.toList, by rw [ba_of], hw⟩
theorem arg_in64 {P : Program} {t : TypeId} (ht : shapeP P 8 t = (false, [.int .i64])) {x : PV} (h : shapeOk (shapeP P 8 t).1 (shapeP P 8 t).2 x = true) (hw : x.wf) : ∃ n, x = .int .i64 n ∧ In64 n := by
  obtain ⟨n, rfl, hn⟩ := arg_int ht h hw
  exact ⟨n, rfl, wf_i64.1 hn⟩
end Go.Skm.Cue
