/-
  The nearest tick of a grid, plainly, and the searches over a grid; condition: times that do not fall.
-/
import Derived.Test.YtdhkklplijleiaaGreatDoorB6
namespace Go.Skm.Cue
open Go Go.Skm
def dst (a b : Int) : Int := if a < b then b - a else a - b
structure IsNear (f : Nat → Int) (N : Nat) (t : Int) (k : Nat) : Prop where
  hi : k ≤ N
  best : ∀ j, j ≤ N → dst (f k) t ≤ dst (f j) t
  first : ∀ j, j < k → dst (f k) t < dst (f j) t
theorem IsNear.unique {f : Nat → Int} {N : Nat} {t : Int} {k k' : Nat} (a : IsNear f N t k) (b : IsNear f N t k') : k = k' := by
  rcases Nat.lt_trichotomy k k' with h | h | h
  · have := b.first k h; have := a.best k' b.hi; omega
  · exact h
  · have := a.first k' h; have := b.best k a.hi; omega
theorem first_reach {f : Nat → Int} {N : Nat} (mono : ∀ i j, i ≤ j → j ≤ N → f i ≤ f j) {m r : Nat} (hm : m ≤ N) (hr : r ≤ N) (h1 : r = 0 ∨ f (r - 1) < f m) (h2 : r = N ∨ f m ≤ f r) : r ≤ m ∧ f r = f m ∧ ∀ j, j < r → f j < f m := by
  have a : r ≤ m := by
    rcases h1 with h | h
    · omega
    · by_cases e : r ≤ m
      · exact e
      · have := mono m (r - 1) (by omega) (by omega); omega
  refine ⟨a, ?_, fun j hj => ?_⟩
  · have := mono r m a hm
    rcases h2 with h | h
    · have e : r = m := by omega
      rw [e]
    · omega
  · rcases h1 with h | h
    · omega
    · have := mono j (r - 1) (by omega) (by omega); omega
theorem near_zero {f : Nat → Int} {N : Nat} {t : Int} (mono : ∀ i j, i ≤ j → j ≤ N → f i ≤ f j) (h : t ≤ f 0) : IsNear f N t 0 :=
  ⟨by omega, fun j hj => by have := mono 0 j (by omega) hj; unfold dst; split <;> split <;> omega, fun j hj => by omega⟩
theorem near_last {f : Nat → Int} {N : Nat} {t : Int} (mono : ∀ i j, i ≤ j → j ≤ N → f i ≤ f j) (h : f N < t) {r : Nat} (hr : r ≤ N) (h1 : r = 0 ∨ f (r - 1) < f N) (h2 : r = N ∨ f N ≤ f r) : IsNear f N t r := by
  obtain ⟨_, b, c⟩ := first_reach mono (Nat.le_refl N) hr h1 h2
  refine ⟨hr, fun j hj => ?_, fun j hj => ?_⟩
  · have := mono j N hj (Nat.le_refl N); unfold dst; split <;> split <;> omega
  · have := c j hj; unfold dst; split <;> split <;> omega
theorem near_low {f : Nat → Int} {N b : Nat} {t : Int} (mono : ∀ i j, i ≤ j → j ≤ N → f i ≤ f j) (hb : b + 1 ≤ N) (hx : f b < t) (hy : t ≤ f (b + 1)) (hd : t - f b ≤ f (b + 1) - t) {r : Nat} (hr : r ≤ N) (h1 : r = 0 ∨ f (r - 1) < f b) (h2 : r = N ∨ f b ≤ f r) : IsNear f N t r := by
  obtain ⟨a, e, c⟩ := first_reach mono (m := b) (by omega) hr h1 h2
  refine ⟨hr, fun j hj => ?_, fun j hj => ?_⟩
  · by_cases g : j ≤ b
    · have := mono j b g (by omega); unfold dst; split <;> split <;> omega
    · have := mono (b + 1) j (by omega) hj; unfold dst; split <;> split <;> omega
  · have := c j hj; unfold dst; split <;> split <;> omega
theorem near_up {f : Nat → Int} {N b : Nat} {t : Int} (mono : ∀ i j, i ≤ j → j ≤ N → f i ≤ f j) (hb : b + 1 ≤ N) (hx : f b < t) (hy : t ≤ f (b + 1)) (hd : ¬ t - f b ≤ f (b + 1) - t) : IsNear f N t (b + 1) := by
  refine ⟨hb, fun j hj => ?_, fun j hj => ?_⟩
  · by_cases g : j ≤ b
    · have := mono j b g (by omega); unfold dst; split <;> split <;> omega
    · have := mono (b + 1) j (by omega) hj; unfold dst; split <;> split <;> omega
  · have := mono j b (by omega) (by omega); unfold dst; split <;> split <;> omega
theorem near_stop {f : Nat → Int} {N a : Nat} {t : Int} (mono : ∀ i j, i ≤ j → j ≤ N → f i ≤ f j) (ha : a ≤ N) (best : ∀ j, j ≤ N → dst (f a) t ≤ dst (f j) t) (h : a = 0 ∨ dst (f a) t < dst (f (a - 1)) t) : IsNear f N t a := by
  refine ⟨ha, best, fun j hj => ?_⟩
  rcases h with h | h
  · omega
  · have h1 := mono j (a - 1) (by omega) (by omega)
    have h2 := mono (a - 1) a (by omega) ha
    revert h; unfold dst
    split <;> split <;> (try split) <;> omega
theorem near_start {f : Nat → Int} {N k : Nat} {t : Int} (mono : ∀ i j, i ≤ j → j ≤ N → f i ≤ f j) (hk : k ≤ N) (hx : f k ≤ t) (hy : k = N ∨ t < f (k + 1)) : ∀ j, j ≤ N → dst (f (if k + 1 ≤ N ∧ dst (f (k + 1)) t < dst (f k) t then k + 1 else k)) t ≤ dst (f j) t := by
  intro j hj
  have low : j ≤ k → dst (f k) t ≤ dst (f j) t := fun g => by have := mono j k g hk; unfold dst; split <;> split <;> omega
  have high : ¬ j ≤ k → dst (f (k + 1)) t ≤ dst (f j) t := fun g => by
    have := mono (k + 1) j (by omega) hj
    have : t < f (k + 1) := by rcases hy with h | h <;> omega
    unfold dst; split <;> split <;> omega
  by_cases g : j ≤ k
  · have := low g; split <;> omega
  · have := high g; split <;> omega
end Go.Skm.Cue
