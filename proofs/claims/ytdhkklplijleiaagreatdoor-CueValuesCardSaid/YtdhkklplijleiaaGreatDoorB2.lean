/-
  Valid maps (the document's), the exact time of a tick, the program's and the document's; condition: a valid map, a tick in range.
-/
import Derived.Test.YtdhkklplijleiaaGreatDoorB1
namespace Go.Skm.Cue
open Go Go.Skm
def seg (l : List Tm) (x : Int) (i : Nat) : Int :=
  if i + 1 < l.length then max 0 (min x (l.getD (i + 1) default).k - (l.getD i default).k) * (l.getD i default).m else max 0 (x - (l.getD i default).k) * (l.getD i default).m
def exF (l : List Tm) (x : Int) : Nat → Nat → Int
  | _, 0 => 0
  | i, n + 1 => seg l x i + exF l x (i + 1) n
def exS (l : List Tm) (x : Int) : Int := exF l x 0 l.length
abbrev Top : Int := 4194304
theorem goMax_eq (a b : Int) : goMax a b = max a b := by unfold goMax; omega
theorem mulBd {a b A B : Int} (h1 : 0 ≤ a) (h2 : a ≤ A) (h3 : 0 ≤ b) (h4 : b ≤ B) : 0 ≤ a * b ∧ a * b ≤ A * B :=
  ⟨Int.mul_nonneg h1 h3, Int.le_trans (Int.mul_le_mul_of_nonneg_right h2 h3) (Int.mul_le_mul_of_nonneg_left h4 (Int.le_trans h1 h2))⟩
theorem seg_bd {l : List Tm} (v : Valid l) {x : Int} (hx : x ≤ Top) {i : Nat} (hi : i < l.length) : 0 ≤ seg l x i ∧ seg l x i ≤ 25165824000000 := by
  have h0 := v.nonneg hi
  have hm := v.m i hi
  unfold seg
  split
  · rename_i h
    have h1 := v.k (i + 1) h
    exact mulBd (A := 4194304) (B := 6000000) (by omega) (by have : Top = 4194304 := rfl; omega) (by omega) hm.2
  · exact mulBd (A := 4194304) (B := 6000000) (by omega) (by have : Top = 4194304 := rfl; omega) (by omega) hm.2
theorem exF_bd {l : List Tm} (v : Valid l) {x : Int} (hx : x ≤ Top) : ∀ (n i : Nat), i + n ≤ l.length → 0 ≤ exF l x i n ∧ exF l x i n ≤ n * 25165824000000
  | 0, i, _ => by simp [exF]
  | n + 1, i, h => by
    have h1 := seg_bd v hx (i := i) (by omega)
    have h2 := exF_bd v hx n (i + 1) (by omega)
    simp only [exF]
    refine ⟨by omega, ?_⟩
    have : ((n + 1 : Nat) : Int) * 25165824000000 = n * 25165824000000 + 25165824000000 := by omega
    omega
theorem exS_bd {l : List Tm} (v : Valid l) {x : Int} (hx : x ≤ Top) : 0 ≤ exS l x ∧ exS l x ≤ 1610612736000000 := by
  have h := exF_bd v hx l.length 0 (by omega)
  have := v.len
  unfold exS
  omega
theorem exF_zero {l : List Tm} (v : Valid l) {x : Int} : ∀ (n i : Nat), i + n ≤ l.length → (∀ j, i ≤ j → j < l.length → x ≤ (l.getD j default).k) → exF l x i n = 0
  | 0, i, _, _ => rfl
  | n + 1, i, h, hk => by
    have h1 := hk i (Nat.le_refl _) (by omega)
    have hs : seg l x i = 0 := by
      unfold seg
      split
      · rw [show max 0 (min x (l.getD (i + 1) default).k - (l.getD i default).k) = 0 by omega, Int.zero_mul]
      · rw [show max 0 (x - (l.getD i default).k) = 0 by omega, Int.zero_mul]
    simp only [exF, hs, exF_zero v n (i + 1) (by omega) (fun j h1 h2 => hk j (by omega) h2)]
    rfl
section
variable (X : Ext) (hX : Mine X)
include hX
omit hX in
end
end Go.Skm.Cue
