/-
  A machine that runs this program's functions on pure values, and the proof that what it returns is true of the program; no condition beside the hypotheses of each.
-/
import Derived.Test.YtdhkklplijleiaaGreatDoorSkmE
namespace Go.Skm
open Go.ChangeShapes Go.WideShapes
section
variable (P : Program)
def fieldsS (g : TypeId → Bool) : Nat → List Field → Bool
  | _, [] => true
  | o, f :: r => f.offset == o && (g f.type && fieldsS g (o + P.cellsOf f.type) r)
def sumS : List Field → Nat
  | [] => 0
  | f :: r => P.cellsOf f.type + sumS r
def argS : Nat → TypeId → Bool
  | 0, _ => false
  | n + 1, t =>
    match P.underlying t with
    | some (.int _) => Nat.beq (P.cellsOf t) 1
    | some .bool => Nat.beq (P.cellsOf t) 1
    | some .string => Nat.beq (P.cellsOf t) 1
    | some (.slice e) => argS n e && (Nat.blt 0 (P.cellsOf e) && Nat.beq (P.cellsOf t) 1)
    | some (.struct fs) => fieldsS P (argS n) 0 fs.toList && Nat.beq (P.cellsOf t) (sumS P fs.toList)
    | some (.array m e) => argS n e && Nat.beq (P.cellsOf t) (m * P.cellsOf e)
    | _ => false
theorem sumS_eq : ∀ l : List Field, sumS P l = argT.sum P l
  | [] => by simp [sumS, argT.sum]
  | f :: r => by simp [sumS, argT.sum, sumS_eq r]
theorem argS_argT : ∀ (n : Nat) (t : TypeId), argS P n t = true → argT P n t = true
  | 0, t, h => by simp [argS] at h
  | n + 1, t, h => by
    unfold argS at h
    unfold argT
    split at h
    · rename_i k hu; rw [hu]; exact h
    · rename_i hu; rw [hu]; exact h
    · rename_i hu; rw [hu]; exact h
    · rename_i e hu
      rw [hu]
      simp only [Bool.and_eq_true] at h ⊢
      exact ⟨argS_argT n e h.1, h.2⟩
    · rename_i fs hu
      rw [hu]
      simp only [Bool.and_eq_true] at h ⊢
      rw [← sumS_eq]
      refine ⟨?_, h.2⟩
      have key : ∀ (l : List Field) (o : Nat), fieldsS P (argS P n) o l = true → argT.go P n o l = true := by
        intro l
        induction l with
        | nil => intro o _; simp [argT.go]
        | cons f r ih =>
          intro o hf
          simp only [fieldsS, Bool.and_eq_true] at hf
          simp only [argT.go, Bool.and_eq_true]
          exact ⟨hf.1, argS_argT n _ hf.2.1, ih _ hf.2.2⟩
      exact key _ _ h.1
    · rename_i m e hu
      rw [hu]
      simp only [Bool.and_eq_true] at h ⊢
      exact ⟨argS_argT n e h.1, h.2⟩
    · cases h
end
section
variable {H : Type} {enc : TypeId × Value → H} {P : Program}
theorem law_of {T : Tab} (ok : TabOk P T) {X : Ext} {gl : List (Nat × Obj)} (hX : ExtOk P T gl X) {f : Nat} {fi : FI} (hf : tlook T.funcs f = some fi) {fn : Func} (hfn : fi.fn = fn) {tb : TypeId} (hres : fn.resultTypes = #[tb]) (hrets : fi.cfg.rets = [])
    (hub : P.underlying tb = some .bool) {s : ChangeSpec} (hvars : s.vars = []) {W : World} {args : Array Value} {ds gs : List (DataW H)} {before : List MemPlace} {b0 : Nat}
    (hval : ∀ (j : Nat) t v, fn.params[j]? = some t → args[j]? = some v → Value.okWide P W .any b0 t v) (hW : DataW.Whole enc P fn.params.toList s.vars false W args.toList ds gs before)
    (hpar : fn.params.toList.all (argS P 8) = true) (hs : s.fn H ds = { results := [.lit (.bool true)], args := ds })
    (hgl : ∀ p ∈ gl, p.1 < W.heap.size ∧ W.heap[p.1]? = some p.2) (hrun : ∀ xs, ArgsR P W (fun b => b < W.heap.size) fn.params.toList args.toList xs → run T X f (xs.map .p) [] = some ([.p (.bool true)], [])) :
    Calls P f args W fun e W' => ∃ v, e = .returned v ∧ s.post enc P fn false true false false W args v W' :=
  law_calls ok hX hf hfn hres hrets hub hvars hval hW (List.all_eq_true.2 fun t ht => argS_argT P 8 t (List.all_eq_true.1 hpar t ht)) hs hgl hrun
end
end Go.Skm
namespace Go.Skm
theorem wrap_eq {x : Int} (h1 : -9223372036854775808 ≤ x) (h2 : x ≤ 9223372036854775807) : IntKind.i64.wrap x = x := by
  have : ∀ y : Int, y = x % 2 ^ 64 → (if (true && decide (y ≥ 2 ^ (64 - 1))) = true then y - 2 ^ 64 else y) = x := by
    intro y hy
    by_cases h : y ≥ 2 ^ (64 - 1)
    · rw [if_pos (by simpa using h)]; omega
    · rw [if_neg (by simpa using h)]; omega
  exact this _ rfl
theorem condD {α : Type} (p : Prop) [Decidable p] (a b : α) : cond (decide p) a b = if p then a else b := by
  by_cases h : p <;> simp [h]
theorem condE {α : Type} (x y : Int) (a b : α) : cond (x == y) a b = if x = y then a else b := by
  by_cases h : x = y
  · simp [h]
  · have : (x == y) = false := by simpa using h
    simp [h, this]
theorem condN {α : Type} (x y : Int) (a b : α) : cond (x != y) a b = if x = y then b else a := by
  by_cases h : x = y
  · simp [h]
  · have : (x != y) = true := by simpa using h
    simp [h, this]
theorem condA {α : Type} (p q : Bool) (a b : α) : cond (p && q) a b = cond p (cond q a b) b := by cases p <;> rfl
theorem condO {α : Type} (p : Bool) (a b : α) : cond (!p) a b = cond p b a := by cases p <;> rfl
@[simp] theorem toInt_int (k : IntKind) (n : Int) : (PV.int k n).toInt = n := rfl
@[simp] theorem toBool_bool (b : Bool) : (PV.bool b).toBool = b := rfl
@[simp] theorem toStr_str (s : ByteArray) : (PV.str s).toStr = s := rfl
@[simp] theorem toList_list (a : Bool) (ks : List Kd) (xs : List PV) : (PV.list a ks xs).toList = xs := rfl
@[simp] theorem pv_p (v : PV) : (AV.p v).pv = v := rfl
@[simp] theorem freshList_fresh (a : Bool) (ks : List Kd) (xs : List PV) : (AV.fresh a ks xs).freshList = xs := rfl
@[simp] theorem sOff_slice (s z o l : Nat) : (AV.slice s z o l).sOff = o := rfl
@[simp] theorem sLen_slice (s z o l : Nat) : (AV.slice s z o l).sLen = l := rfl
@[simp] theorem xs_arr (a : Bool) (ks : List Kd) (xs : List PV) : (Blk.arr a ks xs).xs = xs := rfl
@[simp] theorem cell_agg (cs : List PV) (j : Nat) : (PV.agg cs).cell j = cs.getD j .nil := rfl
@[simp] theorem cell_list (a : Bool) (ks : List Kd) (xs : List PV) (j : Nat) : (PV.list a ks xs).cell j = .list a ks xs := rfl
@[simp] theorem cell_int (k : IntKind) (n : Int) (j : Nat) : (PV.int k n).cell j = .int k n := rfl
structure V3 where
  x : Int
  y : Int
  z : Int
  deriving DecidableEq
namespace V3
theorem ext' {a b : V3} (h1 : a.x = b.x) (h2 : a.y = b.y) (h3 : a.z = b.z) : a = b := by
  cases a; cases b; simp at h1 h2 h3; simp [h1, h2, h3]
instance : Inhabited V3 := ⟨⟨0, 0, 0⟩⟩
end V3
def encV (v : V3) : PV := .agg [.int .i64 v.x, .int .i64 v.y, .int .i64 v.z]
def encL (l : List V3) : List PV := l.map encV
def encI (l : List Int) : List PV := l.map fun n => .int .i64 n
@[simp] theorem encL_length (l : List V3) : (encL l).length = l.length := by simp [encL]
@[simp] theorem encI_length (l : List Int) : (encI l).length = l.length := by simp [encI]
@[simp] theorem encL_nil : encL [] = [] := rfl
theorem encL_get (l : List V3) (i : Nat) : (encL l)[i]? = (l[i]?).map encV := by simp [encL]
theorem encL_getD (l : List V3) {i : Nat} (h : i < l.length) : (encL l).getD i .nil = encV (l.getD i default) := by
  rw [List.getD_eq_getElem?_getD, List.getD_eq_getElem?_getD, encL_get]; simp [h]
@[simp] theorem encL_x (l : List V3) (i : Nat) : (((encL l).getD i .nil).cell 0).toInt = (l.getD i default).x := by
  by_cases h : i < l.length
  · rw [encL_getD l h]; rfl
  · have h1 : (encL l).getD i .nil = .nil := by rw [List.getD_eq_getElem?_getD, encL_get]; simp [h]
    have h2 : l.getD i default = default := by rw [List.getD_eq_getElem?_getD]; simp [h]
    rw [h1, h2]; rfl
@[simp] theorem encL_y (l : List V3) (i : Nat) : (((encL l).getD i .nil).cell 1).toInt = (l.getD i default).y := by
  by_cases h : i < l.length
  · rw [encL_getD l h]; rfl
  · have h1 : (encL l).getD i .nil = .nil := by rw [List.getD_eq_getElem?_getD, encL_get]; simp [h]
    have h2 : l.getD i default = default := by rw [List.getD_eq_getElem?_getD]; simp [h]
    rw [h1, h2]; rfl
@[simp] theorem encL_z (l : List V3) (i : Nat) : (((encL l).getD i .nil).cell 2).toInt = (l.getD i default).z := by
  by_cases h : i < l.length
  · rw [encL_getD l h]; rfl
  · have h1 : (encL l).getD i .nil = .nil := by rw [List.getD_eq_getElem?_getD, encL_get]; simp [h]
    have h2 : l.getD i default = default := by rw [List.getD_eq_getElem?_getD]; simp [h]
    rw [h1, h2]; rfl
def V3.ok (v : V3) : Prop := (-9223372036854775808 ≤ v.x ∧ v.x ≤ 9223372036854775807) ∧ (-9223372036854775808 ≤ v.y ∧ v.y ≤ 9223372036854775807) ∧ (-9223372036854775808 ≤ v.z ∧ v.z ≤ 9223372036854775807)
theorem wf_i64 {n : Int} : (PV.int .i64 n).wf ↔ -9223372036854775808 ≤ n ∧ n ≤ 9223372036854775807 := by
  simp [PV.wf, Lit.wf, IntKind.min, IntKind.max, IntKind.bits, IntKind.signed]
section
variable {P : Program} {w : World} {M : Nat → Prop}
theorem ArgsR.one {t : TypeId} {ts : List TypeId} {vs : List Value} {xs : List PV} (h : ArgsR P w M (t :: ts) vs xs) : ∃ x ys v us, xs = x :: ys ∧ vs = v :: us ∧ VR w M x v ∧ shapeOk (shapeP P 8 t).1 (shapeP P 8 t).2 x = true ∧ x.wf ∧ ArgsR P w M ts us ys := by
  cases h with
  | cons _ _ v vs x xs h1 h2 h3 h => exact ⟨x, xs, v, vs, rfl, rfl, h1, h2, h3, h⟩
theorem ArgsR.none {vs : List Value} {xs : List PV} (h : ArgsR P w M [] vs xs) : xs = [] := by cases h; rfl
end
end Go.Skm
