/-
  Cues as pure values of the machine, lists of them, and the order of strings; condition: parts in range where that is said.
-/
import Derived.Test.YtdhkklplijleiaaGreatDoorB1
import Derived.Test.YtdhkklplijleiaaGreatDoorSkmE
namespace Go.Skm.Cue
open Go Go.Skm
structure Cu where
  t : Int
  f : Int
  g : List UInt8
  r : Int
  e : Int
  b : Int
  deriving DecidableEq
instance : Inhabited Cu := ⟨⟨0, 0, [], 0, 0, 0⟩⟩
abbrev kC : List Kd := [.int .i64, .int .i64, .str, .int .u8, .int .u8, .int .u8]
abbrev encC (v : Cu) : PV := .agg [.int .i64 v.t, .int .i64 v.f, .str (ba v.g), .int .u8 v.r, .int .u8 v.e, .int .u8 v.b]
def encU (l : List Cu) : List PV := l.map encC
@[simp] theorem encU_length (l : List Cu) : (encU l).length = l.length := by simp [encU]
theorem encU_get (l : List Cu) (i : Nat) : (encU l)[i]? = (l[i]?).map encC := by simp [encU]
theorem encU_getD (l : List Cu) {i : Nat} (h : i < l.length) : (encU l).getD i .nil = encC (l.getD i default) := by
  rw [List.getD_eq_getElem?_getD, List.getD_eq_getElem?_getD, encU_get]; simp [h]
theorem encU_none (l : List Cu) {i : Nat} (h : ¬ i < l.length) : (encU l).getD i .nil = .nil := by
  rw [List.getD_eq_getElem?_getD, encU_get]; simp [h]
theorem cu_none (l : List Cu) {i : Nat} (h : ¬ i < l.length) : l.getD i default = default := by
  rw [List.getD_eq_getElem?_getD]; simp [h]
@[simp] theorem encU_t (l : List Cu) (i : Nat) : (((encU l).getD i .nil).cell 0).toInt = (l.getD i default).t := by
  by_cases h : i < l.length
  · rw [encU_getD l h]; rfl
  · rw [encU_none l h, cu_none l h]; rfl
@[simp] theorem encU_f (l : List Cu) (i : Nat) : (((encU l).getD i .nil).cell 1).toInt = (l.getD i default).f := by
  by_cases h : i < l.length
  · rw [encU_getD l h]; rfl
  · rw [encU_none l h, cu_none l h]; rfl
@[simp] theorem encU_g (l : List Cu) (i : Nat) : (((encU l).getD i .nil).cell 2).toStr = ba (l.getD i default).g := by
  by_cases h : i < l.length
  · rw [encU_getD l h]; rfl
  · rw [encU_none l h, cu_none l h]; rfl
@[simp] theorem encU_r (l : List Cu) (i : Nat) : (((encU l).getD i .nil).cell 3).toInt = (l.getD i default).r := by
  by_cases h : i < l.length
  · rw [encU_getD l h]; rfl
  · rw [encU_none l h, cu_none l h]; rfl
@[simp] theorem encU_e (l : List Cu) (i : Nat) : (((encU l).getD i .nil).cell 4).toInt = (l.getD i default).e := by
  by_cases h : i < l.length
  · rw [encU_getD l h]; rfl
  · rw [encU_none l h, cu_none l h]; rfl
@[simp] theorem encU_b (l : List Cu) (i : Nat) : (((encU l).getD i .nil).cell 5).toInt = (l.getD i default).b := by
  by_cases h : i < l.length
  · rw [encU_getD l h]; rfl
  · rw [encU_none l h, cu_none l h]; rfl
theorem encU_drop (l : List Cu) (n : Nat) : (encU l).drop n = encU (l.drop n) := by simp [encU]
theorem encU_take (l : List Cu) (n : Nat) : (encU l).take n = encU (l.take n) := by simp [encU]
theorem encU_append (l m : List Cu) : encU l ++ encU m = encU (l ++ m) := by simp [encU]
def In64 (n : Int) : Prop := -9223372036854775808 ≤ n ∧ n ≤ 9223372036854775807
def In8 (n : Int) : Prop := 0 ≤ n ∧ n ≤ 255
structure Cu.ok (v : Cu) : Prop where
  t : In64 v.t
  f : In64 v.f
  g : v.g.length ≤ maxLen
  r : In8 v.r
  e : In8 v.e
  b : In8 v.b
theorem wf_u8 {n : Int} : (PV.int .u8 n).wf ↔ In8 n := by
  simp [PV.wf, Lit.wf, IntKind.min, IntKind.max, IntKind.bits, IntKind.signed, In8]
theorem cu_of {x : PV} (h : shapeOk true kC x = true) (hw : x.wf) : ∃ v : Cu, x = encC v ∧ v.ok := by
  cases x <;> simp only [shapeOk, Bool.false_eq_true] at h
  rename_i cs
  match cs, h, hw with
  | [a, b, c, d, e, f], h, hw =>
    simp only [kindsOk, Bool.and_true, Bool.and_eq_true] at h
    obtain ⟨ha, hb, hc, hd, he, hf⟩ := h
    cases a <;> simp [kindOk] at ha
    cases b <;> simp [kindOk] at hb
    cases c <;> simp [kindOk] at hc
    cases d <;> simp [kindOk] at hd
    cases e <;> simp [kindOk] at he
    cases f <;> simp [kindOk] at hf
    subst ha hb hd he hf
    rename_i p q s u v w
    simp only [PV.wf, PV.wfs, and_true] at hw
    obtain ⟨h1, h2, h3, h4, h5, h6⟩ := hw
    exact ⟨⟨p, q, s.data.toList, u, v, w⟩, by simp [ba_of], ⟨wf_i64.1 h1, wf_i64.1 h2, h3, wf_u8.1 h4, wf_u8.1 h5, wf_u8.1 h6⟩⟩
  | [], h, _ => simp [kindsOk] at h
  | [_], h, _ => simp [kindsOk] at h
  | [_, _], h, _ => simp [kindsOk] at h
  | [_, _, _], h, _ => simp [kindsOk] at h
  | [_, _, _, _], h, _ => simp [kindsOk] at h
  | [_, _, _, _, _], h, _ => simp [kindsOk] at h
  | _ :: _ :: _ :: _ :: _ :: _ :: _ :: _, h, _ => simp [kindsOk] at h
theorem cus_of : ∀ {xs : List PV}, (∀ x ∈ xs, shapeOk true kC x = true) → PV.wfs xs → ∃ l : List Cu, xs = encU l ∧ ∀ v ∈ l, v.ok
  | [], _, _ => ⟨[], rfl, by simp⟩
  | x :: xs, h, hw => by
    obtain ⟨v, rfl, h1⟩ := cu_of (h x (by simp)) hw.1
    obtain ⟨l, rfl, h2⟩ := cus_of (fun y hy => h y (by simp [hy])) hw.2
    exact ⟨v :: l, rfl, fun u hu => by
      rcases List.mem_cons.1 hu with rfl | hu
      · exact h1
      · exact h2 u hu⟩
theorem cus_arg {P : Program} {w : World} {M : Nat → Prop} {x : PV} {v : Value} {t : TypeId} (ht : shapeP P 8 t = (false, [.slice true kC])) (h : VR w M x v) (h1 : shapeOk (shapeP P 8 t).1 (shapeP P 8 t).2 x = true) (h2 : x.wf) :
    ∃ l : List Cu, x = .list true kC (encU l) ∧ (∀ v ∈ l, v.ok) ∧ l.length ≤ maxLen := by
  rw [ht] at h1
  simp only [shapeOk] at h1
  cases x <;> simp only [kindOk, Bool.false_eq_true] at h1
  · rename_i a ks xs
    simp only [Bool.and_eq_true, beq_iff_eq] at h1
    obtain ⟨rfl, h3⟩ := h1
    have h3 := Kd.beqs_eq _ _ h3
    subst h3
    simp only [PV.wf] at h2
    have hsh : ∀ y ∈ xs, shapeOk true kC y = true := by
      cases h with
      | list _ _ _ b o cap f _ _ _ _ hs => exact hs
      | listE _ _ base cap => simp
    obtain ⟨l, rfl, h4⟩ := cus_of hsh h2.2
    exact ⟨l, rfl, h4, by simpa using h2.1⟩
  · exact h2.elim
theorem ba_toList (l : List UInt8) : (ba l).toList = l := by rw [ByteArray.toList_eq]; rfl
theorem ba_dec (x y : List UInt8) : decide (ba x = ba y) = decide (x = y) := by
  by_cases h : x = y
  · simp [h]
  · have : ¬ ba x = ba y := fun e => h (ba_inj.1 e)
    simp [h, this]
theorem ba_getD (l : List UInt8) (i : Nat) : (ba l).data.getD i 0 = l.getD i 0 := by
  simp [ba, Array.getD_eq_getD_getElem?, List.getD_eq_getElem?_getD]
theorem bytesLt_irrefl : ∀ a : List UInt8, bytesLt a a = false
  | [] => rfl
  | x :: a => by simp [bytesLt, bytesLt_irrefl a]
theorem bytesLt_trans : ∀ {a b c : List UInt8}, bytesLt a b = true → bytesLt b c = true → bytesLt a c = true
  | [], [], _, h, _ => by simp [bytesLt] at h
  | [], _ :: _, [], _, h => by simp [bytesLt] at h
  | [], _ :: _, _ :: _, _, _ => by simp [bytesLt]
  | _ :: _, [], _, h, _ => by simp [bytesLt] at h
  | _ :: _, _ :: _, [], _, h => by simp [bytesLt] at h
  | x :: a, y :: b, z :: c, h1, h2 => by
    simp only [bytesLt, Bool.or_eq_true, Bool.and_eq_true, decide_eq_true_eq, beq_iff_eq] at h1 h2 ⊢
    rcases h1 with h1 | ⟨rfl, h1⟩
    · rcases h2 with h2 | ⟨rfl, h2⟩
      · exact .inl (UInt8.lt_trans h1 h2)
      · exact .inl h1
    · rcases h2 with h2 | ⟨rfl, h2⟩
      · exact .inl h2
      · exact .inr ⟨rfl, bytesLt_trans h1 h2⟩
theorem bytesLt_tri : ∀ a b : List UInt8, bytesLt a b = true ∨ a = b ∨ bytesLt b a = true
  | [], [] => .inr (.inl rfl)
  | [], _ :: _ => .inl rfl
  | _ :: _, [] => .inr (.inr rfl)
  | x :: a, y :: b => by
    simp only [bytesLt, Bool.or_eq_true, Bool.and_eq_true, decide_eq_true_eq, beq_iff_eq, List.cons.injEq]
    have h : x < y ∨ x = y ∨ y < x := by
      rcases Nat.lt_trichotomy x.toNat y.toNat with h | h | h
      · exact .inl h
      · exact .inr (.inl (UInt8.toNat_inj.1 h))
      · exact .inr (.inr h)
    rcases h with h | rfl | h
    · exact .inl (.inl h)
    · rcases bytesLt_tri a b with h | rfl | h
      · exact .inl (.inr ⟨rfl, h⟩)
      · exact .inr (.inl ⟨rfl, rfl⟩)
      · exact .inr (.inr (.inr ⟨rfl, h⟩))
    · exact .inr (.inr (.inl h))
theorem compareBytes_eq : ∀ a b : List UInt8, Lib.compareBytes a b = if bytesLt a b then -1 else if a = b then 0 else 1
  | [], [] => rfl
  | [], _ :: _ => rfl
  | _ :: _, [] => by simp [Lib.compareBytes, bytesLt]
  | x :: a, y :: b => by
    have ih := compareBytes_eq a b
    simp only [Lib.compareBytes, bytesLt]
    by_cases h1 : x < y
    · simp [h1]
    · by_cases h2 : y < x
      · have h3 : x ≠ y := fun e => by rw [e] at h2; exact absurd h2 (UInt8.lt_irrefl _)
        simp [h1, h2, h3]
      · have h3 : x = y := by
          apply UInt8.toNat_inj.1
          have a1 : ¬ x.toNat < y.toNat := h1
          have a2 : ¬ y.toNat < x.toNat := h2
          omega
        subst h3
        simp [h1, ih]
def bef (a b : Cu) : Bool := decide (a.t < b.t) || (decide (a.t = b.t) && bytesLt a.g b.g)
def sam (a b : Cu) : Bool := decide (a.t = b.t) && decide (a.g = b.g)
def cmpC (a b : Cu) : Int := if bef a b then -1 else if sam a b then 0 else 1
theorem bef_iff {a b : Cu} : bef a b = true ↔ a.t < b.t ∨ (a.t = b.t ∧ bytesLt a.g b.g = true) := by simp [bef]
theorem sam_iff {a b : Cu} : sam a b = true ↔ a.t = b.t ∧ a.g = b.g := by simp [sam]
theorem bef_irrefl (a : Cu) : bef a a = false := by simp [bef, bytesLt_irrefl]
theorem bef_trans {a b c : Cu} (h1 : bef a b = true) (h2 : bef b c = true) : bef a c = true := by
  rw [bef_iff] at *
  rcases h1 with h1 | ⟨h1, g1⟩ <;> rcases h2 with h2 | ⟨h2, g2⟩
  · exact .inl (by omega)
  · exact .inl (by omega)
  · exact .inl (by omega)
  · exact .inr ⟨by omega, bytesLt_trans g1 g2⟩
theorem bef_tri (a b : Cu) : bef a b = true ∨ sam a b = true ∨ bef b a = true := by
  rw [bef_iff, bef_iff, sam_iff]
  rcases bytesLt_tri a.g b.g with h | h | h <;> rcases Int.lt_trichotomy a.t b.t with g | g | g
  · exact .inl (.inl g)
  · exact .inl (.inr ⟨g, h⟩)
  · exact .inr (.inr (.inl g))
  · exact .inl (.inl g)
  · exact .inr (.inl ⟨g, h⟩)
  · exact .inr (.inr (.inl g))
  · exact .inl (.inl g)
  · exact .inr (.inr (.inr ⟨g.symm, h⟩))
  · exact .inr (.inr (.inl g))
theorem bef_not_sam {a b : Cu} (h : bef a b = true) : sam a b = false := by
  cases hs : sam a b with
  | false => rfl
  | true =>
    obtain ⟨h1, h2⟩ := sam_iff.1 hs
    rcases bef_iff.1 h with h | ⟨-, h⟩
    · omega
    · rw [h2, bytesLt_irrefl] at h; cases h
theorem bef_asymm {a b : Cu} (h : bef a b = true) : bef b a = false := by
  cases hb : bef b a with
  | false => rfl
  | true => have := bef_trans h hb; rw [bef_irrefl] at this; cases this
theorem sam_comm (a b : Cu) : sam a b = sam b a := by
  unfold sam
  rw [show decide (a.t = b.t) = decide (b.t = a.t) from by simp [eq_comm], show decide (a.g = b.g) = decide (b.g = a.g) from by simp [eq_comm]]
theorem sam_bef_l {a b c : Cu} (h : sam a b = true) : bef a c = bef b c := by
  obtain ⟨h1, h2⟩ := sam_iff.1 h
  unfold bef; rw [h1, h2]
theorem sam_bef_r {a b c : Cu} (h : sam a b = true) : bef c a = bef c b := by
  obtain ⟨h1, h2⟩ := sam_iff.1 h
  unfold bef; rw [h1, h2]
theorem cmpC_lt {a b : Cu} : cmpC a b < 0 ↔ bef a b = true := by
  unfold cmpC
  cases bef a b <;> cases sam a b <;> simp
theorem cmpC_ge {a b : Cu} : cmpC a b ≥ 0 ↔ bef a b = false := by
  unfold cmpC
  cases bef a b <;> cases sam a b <;> simp
theorem cmpC_eq {a b : Cu} : cmpC a b = 0 ↔ sam a b = true := by
  unfold cmpC
  cases h : bef a b
  · cases sam a b <;> simp
  · rw [bef_not_sam h]; simp
end Go.Skm.Cue
