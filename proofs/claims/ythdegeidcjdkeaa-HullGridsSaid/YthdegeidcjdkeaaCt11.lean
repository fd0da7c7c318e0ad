/-
  The document's hull: covered points, the corners, and the way round them; condition: parts in range.
-/
import Derived.Test.YthdegeidcjdkeaaCt10
namespace Go.Skm.Hull
open Go Go.Skm

def anyFrom (f : Nat → Bool) : Nat → Nat → Bool
  | 0, _ => false
  | c + 1, i => f i || anyFrom f c (i + 1)
theorem anyFrom_iff (f : Nat → Bool) : ∀ c i, anyFrom f c i = true ↔ ∃ j, i ≤ j ∧ j < i + c ∧ f j = true
  | 0, i => ⟨fun h => (by simp [anyFrom] at h), fun ⟨j, h1, h2, _⟩ => by omega⟩
  | c + 1, i => by
    rw [anyFrom, Bool.or_eq_true, anyFrom_iff f c (i + 1)]
    constructor
    · rintro (h | ⟨j, h1, h2, h3⟩)
      · exact ⟨i, by omega, by omega, h⟩
      · exact ⟨j, by omega, by omega, h3⟩
    · rintro ⟨j, h1, h2, h3⟩
      by_cases e : j = i
      · subst e; exact Or.inl h3
      · exact Or.inr ⟨j, by omega, by omega, h3⟩
def covT (l : List V3) (p : V3) (i k m : Nat) : Bool := !decide (gt l i = p) && (!decide (gt l k = p) && (!decide (gt l m = p) && inS (gt l i) (gt l k) (gt l m) p))
def covR (l : List V3) (p : V3) : Bool := anyFrom (fun i => anyFrom (fun k => anyFrom (covT l p i k) (k + 1) 0) (i + 1) 0) l.length 0

/-- A point put into a list in order, if it is not there. -/
def insD (p : V3) : List V3 → List V3
  | [] => [p]
  | q :: r => if cmpV q p < 0 then q :: insD p r else if q = p then q :: r else p :: q :: r
def flatD : List V3 → List V3 → List V3
  | s, [] => s
  | s, p :: r => flatD (insD (flatV p) s) r
def cornD (l : List V3) : List V3 := (flatD [] l).filter fun p => !covR (flatD [] l) p
/-- No corner lies on the right of the way from a to b. -/
def fineD (c : List V3) (a b : V3) : Bool := !decide (a = b) && c.all fun q => decide (turnS a b q ≥ 0)
/-- The way round the corners. -/
def Wrap (c : List V3) : V3 → List V3 → Prop
  | _, [] => True
  | a, b :: r => c.find? (fineD c a) = some b ∧ Wrap c b r

theorem insD_len (p : V3) : ∀ l : List V3, (insD p l).length ≤ l.length + 1
  | [] => Nat.le_refl _
  | q :: r => by
    unfold insD
    have := insD_len p r
    split
    · simp only [List.length_cons]; omega
    · split <;> simp only [List.length_cons] <;> omega
theorem insD_mem (p : V3) : ∀ (l : List V3) (v : V3), v ∈ insD p l ↔ v = p ∨ v ∈ l
  | [], v => by simp [insD]
  | q :: r, v => by
    unfold insD
    split
    · rw [List.mem_cons, insD_mem p r v, List.mem_cons]
      constructor
      · rintro (h | h | h) <;> simp [h]
      · rintro (h | h | h) <;> simp [h]
    · split
      · rename_i h; subst h
        simp
      · simp
theorem flatD_mem : ∀ (l s : List V3) (v : V3), v ∈ flatD s l ↔ v ∈ s ∨ ∃ u ∈ l, flatV u = v
  | [], s, v => by simp [flatD]
  | p :: r, s, v => by
    rw [flatD, flatD_mem r, insD_mem]
    constructor
    · rintro ((h | h) | ⟨u, h1, h2⟩)
      · exact Or.inr ⟨p, by simp, h.symm⟩
      · exact Or.inl h
      · exact Or.inr ⟨u, by simp [h1], h2⟩
    · rintro (h | ⟨u, h1, h2⟩)
      · exact Or.inl (Or.inr h)
      · rcases List.mem_cons.1 h1 with rfl | h1
        · exact Or.inl (Or.inl h2.symm)
        · exact Or.inr ⟨u, h1, h2⟩
theorem flatD_len : ∀ (l s : List V3), (flatD s l).length ≤ s.length + l.length
  | [], s => by simp [flatD]
  | p :: r, s => by
    rw [flatD]
    have h1 := flatD_len r (insD (flatV p) s)
    have h2 := insD_len (flatV p) s
    simp only [List.length_cons]
    omega

section
variable (X : Ext) (hX : ∀ f, f ≠ 30 → X f = none)
include hX

theorem c36 (l : List V3) (p : V3) (hl : l.length ≤ 2147483647) (hb : ∀ v ∈ l, Bd 16777216 v) (hp : Bd 16777216 p) :
    run tab X 36 [.p (.list true kV (encL l)), .p (encV p)] [] = some ([.p (.bool (covR l p))], []) := by
  refine run_of (hX _ (by decide)) ?_
  rw [encV, e36]
  have inner : ∀ i k : Nat, i < l.length → k ≤ i → ∀ b : Bool, (L tab (run tab X) 36 [] [[1, 0, 1, 0], [1, 0, 0, 1, 0]] (S36_1010_10010 (encL l) (i : Int) ((k + 1 : Nat) : Int) p.x p.y p.z) = some ([.p (.bool b)], [])) →
      ∀ c m : Nat, m + c = k + 1 → L tab (run tab X) 36 [] [[1, 0, 1, 0], [1, 0, 0, 1, 0], [1, 0, 0, 1, 0]] (S36_1010_10010_10010 (encL l) (i : Int) (k : Int) (m : Int) p.x p.y p.z) = some ([.p (.bool (anyFrom (covT l p i k) c m || b))], []) := by
    intro i k hi hk b hnext c
    induction c with
    | zero =>
      intro m hm
      refine L_of ?_
      rw [e36_1010_10010_10010]
      simp only [condD]
      rw [if_neg (by omega), wrap_nat (by omega), hnext]; rfl
    | succ c ih =>
      intro m hm
      refine L_of ?_
      rw [e36_1010_10010_10010]
      have q := c55 X hX (gt l i) (gt l k) (gt l m) p (hb _ (gt_mem hi)) (hb _ (gt_mem (by omega))) (hb _ (gt_mem (by omega))) hp
      simp only [encV, gt] at q
      simp only [condD, condA, condO, encL_length, Int.toNat_natCast, encL_x, encL_y, encL_z, wrap_nat (show m < 4611686018427387904 by omega), q, Option.bind_some, List.headD_cons, pv_p, toBool_bool]
      have ex : ∀ (u v : V3) {α : Type} (x y : α), cond (u.x == v.x) (cond (u.y == v.y) (cond (u.z == v.z) x y) y) y = if u = v then x else y := by
        intro u v α x y
        have := eqV u v
        by_cases h : u = v
        · subst h; simp
        · rw [if_neg h]
          rw [decide_eq_false h] at this
          cases h1 : u.x == v.x <;> cases h2 : u.y == v.y <;> cases h3 : u.z == v.z <;> simp_all
      have ih' := ih (m + 1) (by omega)
      have es : anyFrom (covT l p i k) (c + 1) m = (covT l p i k m || anyFrom (covT l p i k) c (m + 1)) := rfl
      rw [if_pos (by omega), if_pos (by omega), if_pos (by omega)]
      simp only [cond_true, ex]
      rw [es]
      by_cases g1 : l.getD i default = p
      · rw [if_pos g1, ih']
        have : covT l p i k m = false := by unfold covT gt; rw [decide_eq_true g1]; rfl
        rw [this]; rfl
      rw [if_neg g1, if_pos (by omega), if_pos (by omega)]
      by_cases g2 : l.getD k default = p
      · rw [if_pos g2, ih']
        have : covT l p i k m = false := by unfold covT gt; rw [decide_eq_true g2]; simp
        rw [this]; rfl
      rw [if_neg g2, if_pos (by omega), if_pos (by omega)]
      by_cases g3 : l.getD m default = p
      · rw [if_pos g3, ih']
        have : covT l p i k m = false := by unfold covT gt; rw [decide_eq_true g3]; simp
        rw [this]; rfl
      rw [if_neg g3, if_pos (by omega), if_pos (by omega), if_pos (by omega), if_pos (by omega), if_pos (by omega), if_pos (by omega)]
      have hc : covT l p i k m = inS (gt l i) (gt l k) (gt l m) p := by
        unfold covT gt
        rw [decide_eq_false g1, decide_eq_false g2, decide_eq_false g3]; rfl
      rw [hc]
      simp only [gt]
      cases hin : inS (l.getD i default) (l.getD k default) (l.getD m default) p with
      | true => rfl
      | false => exact ih'
  have middle : ∀ i : Nat, i < l.length → ∀ b : Bool, (L tab (run tab X) 36 [] [[1, 0, 1, 0]] (S36_1010 (encL l) ((i + 1 : Nat) : Int) p.x p.y p.z) = some ([.p (.bool b)], [])) →
      ∀ c k : Nat, k + c = i + 1 → L tab (run tab X) 36 [] [[1, 0, 1, 0], [1, 0, 0, 1, 0]] (S36_1010_10010 (encL l) (i : Int) (k : Int) p.x p.y p.z) = some ([.p (.bool (anyFrom (fun k => anyFrom (covT l p i k) (k + 1) 0) c k || b))], []) := by
    intro i hi b hnext c
    induction c with
    | zero =>
      intro k hk
      refine L_of ?_
      rw [e36_1010_10010]
      simp only [condD]
      rw [if_neg (by omega), wrap_nat (by omega), hnext]; rfl
    | succ c ih =>
      intro k hk
      refine L_of ?_
      rw [e36_1010_10010]
      simp only [condD]
      rw [if_pos (by omega)]
      have := inner i k hi (by omega) _ (ih (k + 1) (by omega)) (k + 1) 0 (by omega)
      rw [← Bool.or_assoc] at this
      exact this
  have outer : ∀ c i : Nat, i + c = l.length → L tab (run tab X) 36 [] [[1, 0, 1, 0]] (S36_1010 (encL l) (i : Int) p.x p.y p.z) = some ([.p (.bool (anyFrom (fun i => anyFrom (fun k => anyFrom (covT l p i k) (k + 1) 0) (i + 1) 0) c i))], []) := by
    intro c
    induction c with
    | zero =>
      intro i hi
      refine L_of ?_
      rw [e36_1010]
      simp only [condD, encL_length]
      rw [if_neg (by omega)]; rfl
    | succ c ih =>
      intro i hi
      refine L_of ?_
      rw [e36_1010]
      simp only [condD, encL_length]
      rw [if_pos (by omega)]
      exact middle i (by omega) _ (ih (i + 1) (by omega)) (i + 1) 0 (by omega)
  exact outer l.length 0 (by omega)
end
end Go.Skm.Hull
