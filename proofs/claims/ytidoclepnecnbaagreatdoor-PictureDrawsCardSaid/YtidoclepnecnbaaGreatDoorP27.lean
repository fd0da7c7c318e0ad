/-
  The library's answers together give what the laws lean on; a picture as a law's argument; condition: none.
-/
import Derived.Test.YtidoclepnecnbaaGreatDoorP24
import Derived.Test.YtidoclepnecnbaaGreatDoorD1
import Derived.Test.YtidoclepnecnbaaGreatDoorTabOk
import Derived.Test.YtidoclepnecnbaaGreatDoorLays
import Derived.Test.YtidoclepnecnbaaGreatDoorSkmH
import Derived.Test.YtidoclepnecnbaaGreatDoorSkmG
set_option maxRecDepth 100000
namespace Go.Skm.Drw
open Go Go.Skm Go.Proofs
theorem cut_ge (c : UInt8) : ∀ l : List UInt8, (Lib.cut l [c]) = cutC c l
  | [] => rfl
  | x :: l => by
    have ih := cut_ge c l
    have hp : ([c] : List UInt8).isPrefixOf (x :: l) = (c == x) := by simp [List.isPrefixOf]
    unfold Lib.cut at ih ⊢
    rw [Lib.index, hp]
    by_cases h : x = c
    · subst h
      simp [cutC]
    · have h1 : (c == x) = false := by simp; exact fun e => h e.symm
      have h2 : (x == c) = false := by simpa using h
      rw [h1]
      simp only [cutC, h2, cond_false, Bool.false_eq_true, if_false]
      rcases Lib.index_spec l [c] with ⟨e, _⟩ | ⟨i, e, _⟩
      · rw [e] at ih ⊢
        simp at ih ⊢
        rw [← ih]
        simp
      · rw [e] at ih ⊢
        have hb : ((i : Int) == -1) = false := by rw [beq_eq_false_iff_ne]; omega
        rw [hb]
        rw [if_pos (by omega)] at ih
        simp only [Bool.false_eq_true, if_false]
        rw [if_pos (by omega), ← ih]
        simp only [Int.toNat_natCast, List.length_cons, List.length_nil]
        rw [show ((i : Int) + 1).toNat = i + 1 by omega, List.take_succ_cons, show i + 1 + (0 + 1) = (i + (0 + 1)) + 1 by omega, List.drop_succ_cons]
theorem tlook_mem {β : Type} {f : Nat} {x : β} : ∀ {l : List (Nat × β)}, tlook l f = some x → (f, x) ∈ l
  | [], h => by cases h
  | (k, y) :: r, h => by
    simp only [tlook] at h
    cases hk : (k == f) with
    | true =>
      rw [hk] at h
      simp only [cond_true, Option.some.injEq] at h
      rw [beq_iff_eq] at hk
      subst h hk
      exact .head _
    | false =>
      rw [hk] at h
      exact .tail _ (tlook_mem h)
theorem prims_list : (tab.funcs.filter fun p => p.2.cfg.prim.is) = [(19, fi19), (21, fi21), (37, fi37)] := by kernel_rfl
theorem primsOk : PrimsOk Tryz.prog tab := by
  intro f fi hf hp
  have hm : (f, fi) ∈ (tab.funcs.filter fun p => p.2.cfg.prim.is) := List.mem_filter.2 ⟨tlook_mem hf, hp⟩
  rw [prims_list] at hm
  simp only [List.mem_cons, List.not_mem_nil, or_false, Prod.mk.injEq] at hm
  rcases hm with ⟨rfl, rfl⟩ | ⟨rfl, rfl⟩ | ⟨rfl, rfl⟩
  · exact ⟨⟨_, rfl⟩, wstr_ok Tryz.lays166 Tryz.Builder_Extra_166⟩
  · exact ⟨⟨_, rfl⟩, str_ok Tryz.lays169 Tryz.Builder_Extra_169⟩
  · exact ⟨⟨_, rfl⟩, wbyte_ok Tryz.lays167 Tryz.Builder_Extra_167⟩
def libX : Ext := extL [(38, itoaF), (45, atoiF), (44, splitF), (27, cutF)]
theorem beqN {f n : Nat} (hn : Nat.beq f n = false) : (n == f) = false := by
  rw [beq_eq_false_iff_ne]
  rintro rfl
  simp at hn
theorem libMine : Mine libX := by
  intro f h
  simp only [extB, Bool.or_eq_false_iff] at h
  obtain ⟨h1, h2, h3, h4⟩ := h
  unfold libX extL
  simp only [tlook, beqN h1, beqN h2, beqN h3, beqN h4, cond_false]
theorem libTexts : Texts libX := by
  refine ⟨fun n h0 h1 => run_ext (fi := fi38) (by kernel_rfl) rfl ?_, fun l hl => run_ext (fi := fi44) (by kernel_rfl) rfl ?_, fun l hl => run_ext (fi := fi45) (by kernel_rfl) rfl ?_, fun l hl => run_ext (fi := fi27) (by kernel_rfl) rfl ?_⟩
  · unfold itoaF
    simp only
    rw [if_pos ⟨h0, h1⟩]
  · unfold splitF
    show (if (ba l).size < 4294967281 then _ else none) = _
    rw [if_pos (by rw [ba_size]; omega)]
    rfl
  · unfold atoiF
    show (if (ba l).size ≤ 281474976710656 then _ else none) = _
    rw [if_pos (by rw [ba_size]; omega)]
    rfl
  · unfold cutF
    show (if (ba l).size < 4294967281 then _ else none) = _
    rw [if_pos (by rw [ba_size]; omega), show (ba l).data.toList = l from rfl, show (⟨#[10]⟩ : ByteArray).data.toList = [10] from rfl, cut_ge]
theorem libKnown : Known libX := known libX libMine libTexts
theorem arg_in64 {P : Program} {t : TypeId} (ht : shapeP P 8 t = (false, [.int .i64])) {x : PV} (h : shapeOk (shapeP P 8 t).1 (shapeP P 8 t).2 x = true) (hw : x.wf) : ∃ n, x = .int .i64 n ∧ In64 n := by
  obtain ⟨n, rfl, hn⟩ := arg_int ht h hw
  exact ⟨n, rfl, wf_i64.1 hn⟩
theorem ints_of : ∀ {ks : List IntKind} {cs : List PV}, kindsOk (ks.map Kd.int) cs = true → ∃ ns : List Int, ns.length = ks.length ∧ cs = List.zipWith PV.int ks ns
  | [], [], _ => ⟨[], rfl, rfl⟩
  | [], _ :: _, h => by simp [kindsOk] at h
  | _ :: _, [], h => by simp [kindsOk] at h
  | k :: ks, c :: cs, h => by
    simp only [List.map_cons, kindsOk, Bool.and_eq_true] at h
    obtain ⟨h1, h2⟩ := h
    obtain ⟨ns, e1, e2⟩ := ints_of h2
    cases c <;> simp [kindOk] at h1
    subst h1
    rename_i n
    exact ⟨n :: ns, by simp [e1], by rw [e2]; rfl⟩
theorem ints_agg {ks : List IntKind} {x : PV} (h : shapeOk true (ks.map Kd.int) x = true) : ∃ ns : List Int, ns.length = ks.length ∧ x = .agg (List.zipWith PV.int ks ns) := by
  cases x <;> simp only [shapeOk, Bool.false_eq_true] at h
  obtain ⟨ns, e1, e2⟩ := ints_of h
  exact ⟨ns, e1, by rw [e2]⟩
theorem cam_arg {P : Program} {x : PV} {t : TypeId} (ht : shapeP P 8 t = (true, kCam)) (h1 : shapeOk (shapeP P 8 t).1 (shapeP P 8 t).2 x = true) : ∃ c : Cam, x = encCam c := by
  rw [ht] at h1
  obtain ⟨ns, e1, rfl⟩ := ints_agg (ks := [.i64, .i64, .i64, .i64, .i64, .i64, .i64, .i64, .i64, .i64, .i64, .i64, .i64, .i64, .i64, .i64]) h1
  match ns, e1 with
  | [a0, a1, a2, a3, a4, a5, a6, a7, a8, a9, a10, a11, a12, a13, a14, a15], _ => exact ⟨⟨⟨a0, a1, a2⟩, ⟨a3, a4, a5⟩, ⟨a6, a7, a8⟩, ⟨a9, a10, a11⟩, a12, a13, a14, a15⟩, rfl⟩
theorem vec_of {x : PV} (h : shapeOk true kV x = true) : ∃ v : V3, x = encV v := by
  obtain ⟨ns, e1, rfl⟩ := ints_agg (ks := [.i64, .i64, .i64]) h
  match ns, e1 with
  | [a0, a1, a2], _ => exact ⟨⟨a0, a1, a2⟩, rfl⟩
theorem col_of {x : PV} (h : shapeOk true kC x = true) : ∃ r g b : Int, x = colP r g b := by
  obtain ⟨ns, e1, rfl⟩ := ints_agg (ks := [.u8, .u8, .u8]) h
  match ns, e1 with
  | [a0, a1, a2], _ => exact ⟨a0, a1, a2, rfl⟩
theorem col_arg {P : Program} {x : PV} {t : TypeId} (ht : shapeP P 8 t = (true, kC)) (h1 : shapeOk (shapeP P 8 t).1 (shapeP P 8 t).2 x = true) : ∃ r g b : Int, x = colP r g b := by
  rw [ht] at h1
  exact col_of h1
theorem list_arg {P : Program} {w : World} {M : Nat → Prop} {x : PV} {v : Value} {t : TypeId} {kK : List Kd} (ht : shapeP P 8 t = (false, [.slice true kK])) (h : VR w M x v) (h1 : shapeOk (shapeP P 8 t).1 (shapeP P 8 t).2 x = true) (h2 : x.wf) :
    ∃ xs, x = .list true kK xs ∧ ∀ y ∈ xs, shapeOk true kK y = true := by
  rw [ht] at h1
  simp only [shapeOk] at h1
  cases x <;> simp only [kindOk, Bool.false_eq_true] at h1
  · rename_i a ks xs
    simp only [Bool.and_eq_true, beq_iff_eq] at h1
    obtain ⟨rfl, h3⟩ := h1
    have h3 := Kd.beqs_eq _ _ h3
    subst h3
    have hsh : ∀ y ∈ xs, shapeOk true kK y = true := by
      cases h with
      | list _ _ _ b o cap f _ _ _ _ hs => exact hs
      | listE _ _ base cap => simp
    exact ⟨xs, rfl, hsh⟩
  · exact h2.elim
theorem vecs_of : ∀ {xs : List PV}, (∀ x ∈ xs, shapeOk true kV x = true) → ∃ l : List V3, xs = encW l
  | [], _ => ⟨[], rfl⟩
  | x :: xs, h => by
    obtain ⟨v, rfl⟩ := vec_of (h x (by simp))
    obtain ⟨l, rfl⟩ := vecs_of (xs := xs) (fun y hy => h y (by simp [hy]))
    exact ⟨v :: l, rfl⟩
theorem cols_of : ∀ {xs : List PV}, (∀ x ∈ xs, shapeOk true kC x = true) → ∃ l : List (Int × Int × Int), xs = encC l
  | [], _ => ⟨[], rfl⟩
  | x :: xs, h => by
    obtain ⟨r, g, b, rfl⟩ := col_of (h x (by simp))
    obtain ⟨l, rfl⟩ := cols_of (xs := xs) (fun y hy => h y (by simp [hy]))
    exact ⟨(r, g, b) :: l, rfl⟩
theorem vecd_arg {P : Program} {w : World} {M : Nat → Prop} {x : PV} {v : Value} {t : TypeId} (ht : shapeP P 8 t = (false, [.slice true kV])) (h : VR w M x v) (h1 : shapeOk (shapeP P 8 t).1 (shapeP P 8 t).2 x = true) (h2 : x.wf) : ∃ l : List V3, x = .list true kV (encW l) := by
  obtain ⟨xs, rfl, hs⟩ := list_arg ht h h1 h2
  obtain ⟨l, rfl⟩ := vecs_of hs
  exact ⟨l, rfl⟩
theorem cols_arg {P : Program} {w : World} {M : Nat → Prop} {x : PV} {v : Value} {t : TypeId} (ht : shapeP P 8 t = (false, [.slice true kC])) (h : VR w M x v) (h1 : shapeOk (shapeP P 8 t).1 (shapeP P 8 t).2 x = true) (h2 : x.wf) : ∃ l : List (Int × Int × Int), x = .list true kC (encC l) := by
  obtain ⟨xs, rfl, hs⟩ := list_arg ht h h1 h2
  obtain ⟨l, rfl⟩ := cols_of hs
  exact ⟨l, rfl⟩
end Go.Skm.Drw
