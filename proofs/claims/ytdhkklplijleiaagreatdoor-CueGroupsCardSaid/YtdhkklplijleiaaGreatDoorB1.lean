/-
  Tempos as pure values of the machine; what the small functions of the Beat seat return, and which maps are valid; condition: parts in range where that is said.
-/
import Derived.Test.YtdhkklplijleiaaGreatDoorEqs
import Derived.Test.YtdhkklplijleiaaGreatDoorSkmF
namespace Go.Skm.Cue
open Go Go.Skm
structure Tm where
  k : Int
  m : Int
  deriving DecidableEq
instance : Inhabited Tm := ⟨⟨0, 0⟩⟩
abbrev kT : List Kd := [.int .i64, .int .i64]
def encT (v : Tm) : PV := .agg [.int .i64 v.k, .int .i64 v.m]
def encM (l : List Tm) : List PV := l.map encT
@[simp] theorem encM_length (l : List Tm) : (encM l).length = l.length := by simp [encM]
theorem encM_get (l : List Tm) (i : Nat) : (encM l)[i]? = (l[i]?).map encT := by simp [encM]
theorem encM_getD (l : List Tm) {i : Nat} (h : i < l.length) : (encM l).getD i .nil = encT (l.getD i default) := by
  rw [List.getD_eq_getElem?_getD, List.getD_eq_getElem?_getD, encM_get]; simp [h]
@[simp] theorem encM_k (l : List Tm) (i : Nat) : (((encM l).getD i .nil).cell 0).toInt = (l.getD i default).k := by
  by_cases h : i < l.length
  · rw [encM_getD l h]; rfl
  · have h1 : (encM l).getD i .nil = .nil := by rw [List.getD_eq_getElem?_getD, encM_get]; simp [h]
    have h2 : l.getD i default = default := by rw [List.getD_eq_getElem?_getD]; simp [h]
    rw [h1, h2]; rfl
@[simp] theorem encM_m (l : List Tm) (i : Nat) : (((encM l).getD i .nil).cell 1).toInt = (l.getD i default).m := by
  by_cases h : i < l.length
  · rw [encM_getD l h]; rfl
  · have h1 : (encM l).getD i .nil = .nil := by rw [List.getD_eq_getElem?_getD, encM_get]; simp [h]
    have h2 : l.getD i default = default := by rw [List.getD_eq_getElem?_getD]; simp [h]
    rw [h1, h2]; rfl
def Tm.ok (v : Tm) : Prop := (-9223372036854775808 ≤ v.k ∧ v.k ≤ 9223372036854775807) ∧ (-9223372036854775808 ≤ v.m ∧ v.m ≤ 9223372036854775807)
theorem tm_of {x : PV} (h : shapeOk true kT x = true) (hw : x.wf) : ∃ v : Tm, x = encT v ∧ v.ok := by
  cases x <;> simp only [shapeOk, Bool.false_eq_true] at h
  rename_i cs
  match cs, h, hw with
  | [a, b], h, hw =>
    simp only [kindsOk, Bool.and_true, Bool.and_eq_true] at h
    obtain ⟨ha, hb⟩ := h
    cases a <;> simp [kindOk] at ha
    cases b <;> simp [kindOk] at hb
    subst ha hb
    rename_i p q
    simp only [PV.wf, PV.wfs, and_true] at hw
    exact ⟨⟨p, q⟩, rfl, wf_i64.1 hw.1, wf_i64.1 hw.2⟩
  | [], h, _ => simp [kindsOk] at h
  | [_], h, _ => simp [kindsOk] at h
  | _ :: _ :: _ :: _, h, _ => simp [kindsOk] at h
theorem tms_of : ∀ {xs : List PV}, (∀ x ∈ xs, shapeOk true kT x = true) → PV.wfs xs → ∃ l : List Tm, xs = encM l ∧ ∀ v ∈ l, v.ok
  | [], _, _ => ⟨[], rfl, by simp⟩
  | x :: xs, h, hw => by
    obtain ⟨v, rfl, h1⟩ := tm_of (h x (by simp)) hw.1
    obtain ⟨l, rfl, h2⟩ := tms_of (fun y hy => h y (by simp [hy])) hw.2
    exact ⟨v :: l, rfl, fun u hu => by
      rcases List.mem_cons.1 hu with rfl | hu
      · exact h1
      · exact h2 u hu⟩
theorem tms_arg {P : Program} {w : World} {M : Nat → Prop} {x : PV} {v : Value} {t : TypeId} (ht : shapeP P 8 t = (false, [.slice true kT])) (h : VR w M x v) (h1 : shapeOk (shapeP P 8 t).1 (shapeP P 8 t).2 x = true) (h2 : x.wf) :
    ∃ l : List Tm, x = .list true kT (encM l) ∧ (∀ v ∈ l, v.ok) ∧ l.length ≤ maxLen := by
  rw [ht] at h1
  simp only [shapeOk] at h1
  cases x <;> simp only [kindOk, Bool.false_eq_true] at h1
  · rename_i a ks xs
    simp only [Bool.and_eq_true, beq_iff_eq] at h1
    obtain ⟨rfl, h3⟩ := h1
    have h3 := Kd.beqs_eq _ _ h3
    subst h3
    simp only [PV.wf] at h2
    have hsh : ∀ y ∈ xs, shapeOk true kT y = true := by
      cases h with
      | list _ _ _ b o cap f _ _ _ _ hs => exact hs
      | listE _ _ base cap => simp
    obtain ⟨l, rfl, h4⟩ := tms_of hsh h2.2
    exact ⟨l, rfl, h4, by simpa using h2.1⟩
  · exact h2.elim
def okAt (l : List Tm) (i : Nat) : Bool :=
  decide (100000 ≤ (l.getD i default).m ∧ (l.getD i default).m ≤ 6000000) && (decide ((l.getD i default).k ≤ 4194304) && decide (i = 0 ∨ (l.getD (i - 1) default).k < (l.getD i default).k))
def allOk (l : List Tm) : Nat → Nat → Bool
  | _, 0 => true
  | i, n + 1 => okAt l i && allOk l (i + 1) n
def validB (l : List Tm) : Bool := allOk l 0 l.length && decide (1 ≤ l.length ∧ l.length ≤ 64 ∧ (l.getD 0 default).k = 0)
theorem allOk_get {l : List Tm} : ∀ {n i : Nat}, allOk l i n = true → ∀ j, i ≤ j → j < i + n → okAt l j = true
  | 0, i, _, j, h1, h2 => by omega
  | n + 1, i, h, j, h1, h2 => by
    simp only [allOk, Bool.and_eq_true] at h
    by_cases e : j = i
    · rw [e]; exact h.1
    · exact allOk_get h.2 j (by omega) (by omega)
structure Valid (l : List Tm) : Prop where
  pos : 1 ≤ l.length
  len : l.length ≤ 64
  zero : (l.getD 0 default).k = 0
  m : ∀ i, i < l.length → 100000 ≤ (l.getD i default).m ∧ (l.getD i default).m ≤ 6000000
  k : ∀ i, i < l.length → (l.getD i default).k ≤ 4194304
  up : ∀ i, i + 1 < l.length → (l.getD i default).k < (l.getD (i + 1) default).k
theorem valid_of {l : List Tm} (h : validB l = true) : Valid l := by
  simp only [validB, Bool.and_eq_true, decide_eq_true_eq] at h
  obtain ⟨h1, h2, h3, h4⟩ := h
  have hk : ∀ i, i < l.length → okAt l i = true := fun i hi => allOk_get h1 i (Nat.zero_le _) (by omega)
  refine ⟨h2, h3, h4, fun i hi => ?_, fun i hi => ?_, fun i hi => ?_⟩
  · have := hk i hi; simp only [okAt, Bool.and_eq_true, decide_eq_true_eq] at this; exact this.1
  · have := hk i hi; simp only [okAt, Bool.and_eq_true, decide_eq_true_eq] at this; exact this.2.1
  · have := hk (i + 1) hi; simp only [okAt, Bool.and_eq_true, decide_eq_true_eq] at this
    rcases this.2.2 with h | h
    · omega
    · simpa using h
theorem Valid.lt {l : List Tm} (h : Valid l) : ∀ {i j : Nat}, i < j → j < l.length → (l.getD i default).k < (l.getD j default).k := by
  intro i j hij hj
  induction j with
  | zero => omega
  | succ j ih =>
    have h1 := h.up j hj
    by_cases e : i = j
    · rw [e]; exact h1
    · have := ih (by omega) (by omega); omega
theorem Valid.nonneg {l : List Tm} (h : Valid l) {i : Nat} (hi : i < l.length) : 0 ≤ (l.getD i default).k := by
  by_cases e : i = 0
  · rw [e, h.zero]; exact Int.le_refl _
  · have := h.lt (i := 0) (j := i) (by omega) hi
    rw [h.zero] at this; omega
def extB (f : Nat) : Bool := Nat.beq f 71 || (Nat.beq f 38 || (Nat.beq f 37 || (Nat.beq f 70 || (Nat.beq f 83 || (Nat.beq f 62 || (Nat.beq f 55 || Nat.beq f 66))))))
def Mine (X : Ext) : Prop := ∀ f, extB f = false → X f = none
section
variable (X : Ext) (hX : Mine X)
include hX
theorem c128 (n lo hi : Int) : run tab X 128 [.p (.int .i64 n), .p (.int .i64 lo), .p (.int .i64 hi)] [] = some ([.p (.bool (decide (lo ≤ n ∧ n ≤ hi)))], []) :=
  run_of (hX _ rfl) (by
    rw [e128]
    by_cases h : lo ≤ n <;> simp [h])
theorem c95 (n lo hi : Int) : run tab X 95 [.p (.int .i64 n), .p (.int .i64 lo), .p (.int .i64 hi)] [] = some ([.p (.bool (decide (lo ≤ n ∧ n ≤ hi)))], []) :=
  run_of (hX _ rfl) (by
    rw [e95]
    by_cases h : lo ≤ n
    · have h' : n ≥ lo := h
      simp [h]
    · have h' : ¬ n ≥ lo := h
      simp [h])
theorem c127_loop (l : List Tm) (hl : l.length ≤ maxLen) : ∀ (n i : Nat), i + n = l.length →
    L tab (run tab X) 127 [] [.lp [1, 0, 1, 0]] (S127_1010 (encM l) (encM l) l.length i) = some ([.p (.bool (allOk l i n && decide (1 ≤ l.length ∧ l.length ≤ 64 ∧ (l.getD 0 default).k = 0)))], []) := by
  have hm : (maxLen : Int) = 9223372036854775807 := by decide
  intro n
  induction n with
  | zero =>
    intro i hi
    refine L_of ?_
    rw [e127_1010]
    simp only [condD, condA, encM_length, encM_k]
    rw [if_neg (by omega)]
    by_cases h1 : (l.length : Int) ≥ 1
    · rw [if_pos h1]
      by_cases h2 : (l.length : Int) ≤ 64
      · rw [if_pos h2, if_pos (by omega)]
        simp only [allOk, Bool.true_and]
        have h3 : 1 ≤ l.length := by omega
        have h4 : l.length ≤ 64 := by omega
        simp only [h3, h4, true_and]
        rfl
      · rw [if_neg h2]
        have h4 : ¬ l.length ≤ 64 := by omega
        simp [allOk, h4]
    · rw [if_neg h1]
      have h4 : ¬ 1 ≤ l.length := by omega
      simp [allOk, h4]
  | succ n ih =>
    intro i hi
    have hlt : i < l.length := by omega
    have w : IntKind.i64.wrap ((i : Int) + 1) = ((i + 1 : Nat) : Int) := by rw [wrap_eq (by omega) (by omega)]; omega
    have ih' := ih (i + 1) (by omega)
    refine L_of ?_
    rw [e127_1010]
    simp only [c128 X hX, Option.bind_some, List.headD_cons, pv_p, toBool_bool, condD, condO, condA, encM_length, encM_k, encM_m, Int.toNat_natCast, w, ih']
    rw [if_pos (by omega), if_pos (by omega), if_pos (by omega)]
    by_cases h1 : 100000 ≤ (l.getD i default).m ∧ (l.getD i default).m ≤ 6000000
    · rw [if_pos h1]
      by_cases h2 : (l.getD i default).k > 4194304
      · rw [if_pos h2]
        have h2' : ¬ (l.getD i default).k ≤ 4194304 := by omega
        have ho : okAt l i = false := by simp only [okAt, h2', decide_false, Bool.false_and, Bool.and_false]
        simp only [allOk, ho, Bool.false_and]
      · rw [if_neg h2]
        have h2' : (l.getD i default).k ≤ 4194304 := by omega
        by_cases h3 : (i : Int) > 0
        · have w' : IntKind.i64.wrap ((i : Int) - 1) = ((i - 1 : Nat) : Int) := by rw [wrap_eq (by omega) (by omega)]; omega
          rw [if_pos h3, w', if_pos (by omega), if_pos (by omega)]
          simp only [Int.toNat_natCast]
          by_cases h4 : (l.getD i default).k ≤ (l.getD (i - 1) default).k
          · rw [if_pos h4]
            have h5 : ¬ (i = 0 ∨ (l.getD (i - 1) default).k < (l.getD i default).k) := by omega
            have ho : okAt l i = false := by simp only [okAt, h5, decide_false, Bool.and_false]
            simp only [allOk, ho, Bool.false_and]
          · rw [if_neg h4]
            have h5 : i = 0 ∨ (l.getD (i - 1) default).k < (l.getD i default).k := by omega
            simp only [allOk, okAt, h1, h2', h5, decide_true, Bool.true_and, and_self]
        · rw [if_neg h3]
          have h5 : i = 0 := by omega
          subst h5
          simp only [allOk, okAt, h1, h2', decide_true, Bool.true_and, and_self, true_or]
    · rw [if_neg h1]
      have ho : okAt l i = false := by simp only [okAt, h1, decide_false, Bool.false_and]
      simp only [allOk, ho, Bool.false_and]
theorem c127 (l : List Tm) (hl : l.length ≤ maxLen) : run tab X 127 [.p (.list true kT (encM l))] [] = some ([.p (.bool (validB l))], []) :=
  run_of (hX _ rfl) (by
    rw [e127, encM_length]
    exact c127_loop X hX l hl l.length 0 (by omega))
end
end Go.Skm.Cue
