/-
  The library's answers together give what the laws lean on; a picture as a law's argument; condition: none.
-/
import Derived.Test.YtidoclepnecnbaaDoorOP24
import Derived.Test.YtidoclepnecnbaaDoorOTabOk
import Derived.Test.YtidoclepnecnbaaDoorLays
import Derived.Test.YtidoclepnecnbaaDoorOSkmH
import Derived.Test.YtidoclepnecnbaaDoorOSkmG
set_option maxRecDepth 100000
namespace Go.Skm.Pio
open Go Go.Skm Go.Proofs
theorem cut_ge (c : UInt8) : ∀ l : List UInt8, (Lib.cut l [c]) = cutC c l
  | [] => rfl
  | x :: l => by
    have ih := cut_ge c l
    have hp : ([c] : List UInt8).isPrefixOf (x :: l) = (c == x) := by simp [List.isPrefixOf]
    unfold Lib.cut at ih ⊢
    rw [Lib.index, hp]
    by_cases h : x = c
    · subst h
      simp [cutC]
    · have h1 : (c == x) = false := by simp; exact fun e => h e.symm
      have h2 : (x == c) = false := by simpa using h
      rw [h1]
      simp only [cutC, h2, cond_false, Bool.false_eq_true, if_false]
      rcases Lib.index_spec l [c] with ⟨e, _⟩ | ⟨i, e, _⟩
      · rw [e] at ih ⊢
        simp at ih ⊢
        rw [← ih]
        simp
      · rw [e] at ih ⊢
        have hb : ((i : Int) == -1) = false := by rw [beq_eq_false_iff_ne]; omega
        rw [hb]
        rw [if_pos (by omega)] at ih
        simp only [Bool.false_eq_true, if_false]
        rw [if_pos (by omega), ← ih]
        simp only [Int.toNat_natCast, List.length_cons, List.length_nil]
        rw [show ((i : Int) + 1).toNat = i + 1 by omega, List.take_succ_cons, show i + 1 + (0 + 1) = (i + (0 + 1)) + 1 by omega, List.drop_succ_cons]
theorem tlook_mem {β : Type} {f : Nat} {x : β} : ∀ {l : List (Nat × β)}, tlook l f = some x → (f, x) ∈ l
  | [], h => by cases h
  | (k, y) :: r, h => by
    simp only [tlook] at h
    cases hk : (k == f) with
    | true =>
      rw [hk] at h
      simp only [cond_true, Option.some.injEq] at h
      rw [beq_iff_eq] at hk
      subst h hk
      exact .head _
    | false =>
      rw [hk] at h
      exact .tail _ (tlook_mem h)
theorem prims_list : (tab.funcs.filter fun p => p.2.cfg.prim.is) = [(35, fi35), (37, fi37), (53, fi53)] := by kernel_rfl
theorem primsOk : PrimsOk Tryd.prog tab := by
  intro f fi hf hp
  have hm : (f, fi) ∈ (tab.funcs.filter fun p => p.2.cfg.prim.is) := List.mem_filter.2 ⟨tlook_mem hf, hp⟩
  rw [prims_list] at hm
  simp only [List.mem_cons, List.not_mem_nil, or_false, Prod.mk.injEq] at hm
  rcases hm with ⟨rfl, rfl⟩ | ⟨rfl, rfl⟩ | ⟨rfl, rfl⟩
  · exact ⟨⟨_, rfl⟩, wstr_ok Tryd.lays166 Tryd.Builder_Extra_166⟩
  · exact ⟨⟨_, rfl⟩, str_ok Tryd.lays169 Tryd.Builder_Extra_169⟩
  · exact ⟨⟨_, rfl⟩, wbyte_ok Tryd.lays167 Tryd.Builder_Extra_167⟩
def libX : Ext := extL [(54, itoaF), (59, atoiF), (58, splitF), (41, cutF)]
theorem beqN {f n : Nat} (hn : Nat.beq f n = false) : (n == f) = false := by
  rw [beq_eq_false_iff_ne]
  rintro rfl
  simp at hn
theorem libMine : Mine libX := by
  intro f h
  simp only [extB, Bool.or_eq_false_iff] at h
  obtain ⟨h1, h2, h3, h4⟩ := h
  unfold libX extL
  simp only [tlook, beqN h1, beqN h2, beqN h3, beqN h4, cond_false]
theorem libTexts : Texts libX := by
  refine ⟨fun n h0 h1 => run_ext (fi := fi54) (by kernel_rfl) rfl ?_, fun l hl => run_ext (fi := fi58) (by kernel_rfl) rfl ?_, fun l hl => run_ext (fi := fi59) (by kernel_rfl) rfl ?_, fun l hl => run_ext (fi := fi41) (by kernel_rfl) rfl ?_⟩
  · unfold itoaF
    simp only
    rw [if_pos ⟨h0, h1⟩]
  · unfold splitF
    show (if (ba l).size < 4294967281 then _ else none) = _
    rw [if_pos (by rw [ba_size]; omega)]
    rfl
  · unfold atoiF
    show (if (ba l).size ≤ 281474976710656 then _ else none) = _
    rw [if_pos (by rw [ba_size]; omega)]
    rfl
  · unfold cutF
    show (if (ba l).size < 4294967281 then _ else none) = _
    rw [if_pos (by rw [ba_size]; omega), show (ba l).data.toList = l from rfl, show (⟨#[10]⟩ : ByteArray).data.toList = [10] from rfl, cut_ge]
theorem libKnown : Known libX := known libX libMine libTexts
theorem arg_in64 {P : Program} {t : TypeId} (ht : shapeP P 8 t = (false, [.int .i64])) {x : PV} (h : shapeOk (shapeP P 8 t).1 (shapeP P 8 t).2 x = true) (hw : x.wf) : ∃ n, x = .int .i64 n ∧ In64 n := by
  obtain ⟨n, rfl, hn⟩ := arg_int ht h hw
  exact ⟨n, rfl, wf_i64.1 hn⟩
theorem pic_arg {P : Program} {w : World} {M : Nat → Prop} {x : PV} {v : Value} {t : TypeId} (ht : shapeP P 8 t = (true, kP)) (h : VR w M x v) (h1 : shapeOk (shapeP P 8 t).1 (shapeP P 8 t).2 x = true) (h2 : x.wf) : ∃ p : Pi, x = encP p ∧ p.ok := by
  rw [ht] at h1
  cases x <;> simp only [shapeOk, Bool.false_eq_true] at h1
  rename_i cs
  match cs, h, h1, h2 with
  | [a, b, c, d, e, f], h, h1, h2 =>
    simp only [kindsOk, Bool.and_true, Bool.and_eq_true] at h1
    obtain ⟨ha, hb, hc, hd, he, hf⟩ := h1
    cases a <;> simp [kindOk] at ha
    cases b <;> simp [kindOk] at hb
    cases c <;> simp [kindOk] at hc
    cases d <;> simp [kindOk] at hd
    cases e <;> simp [kindOk] at he
    subst ha hb hc hd he
    rename_i w' h' a' e' b'
    simp only [PV.wf, PV.wfs, and_true] at h2
    obtain ⟨g1, g2, g3, g4, g5, g6⟩ := h2
    obtain ⟨z, hv⟩ : ∃ z, VR w M f z := by
      cases h with
      | agg _ vs hn hl hh => exact ⟨_, hh 5 f rfl⟩
    cases f <;> simp only [kindOk, Bool.false_eq_true] at hf
    · rename_i al ks xs
      simp only [Bool.and_eq_true, beq_iff_eq] at hf
      obtain ⟨rfl, h3⟩ := hf
      have h3 := Kd.beqs_eq _ _ h3
      subst h3
      simp only [PV.wf] at g6
      have hsh : ∀ y ∈ xs, shapeOk true kD y = true := by
        cases hv with
        | list _ _ _ b o cap f _ _ _ _ hs => exact hs
        | listE _ _ base cap => simp
      obtain ⟨l, rfl, h4⟩ := dts_of hsh g6.2
      exact ⟨⟨w', h', a', e', b', l⟩, rfl, ⟨wf_i64.1 g1, wf_i64.1 g2, wf_u8.1 g3, wf_u8.1 g4, wf_u8.1 g5, h4, by simpa using g6.1⟩⟩
    · exact g6.elim
  | [], _, h, _ => simp [kindsOk] at h
  | [_], _, h, _ => simp [kindsOk] at h
  | [_, _], _, h, _ => simp [kindsOk] at h
  | [_, _, _], _, h, _ => simp [kindsOk] at h
  | [_, _, _, _], _, h, _ => simp [kindsOk] at h
  | [_, _, _, _, _], _, h, _ => simp [kindsOk] at h
  | _ :: _ :: _ :: _ :: _ :: _ :: _ :: _, _, h, _ => simp [kindsOk] at h
end Go.Skm.Pio
