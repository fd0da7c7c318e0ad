/-
  The document's row, and a row of one colour; condition: lengths that fit.
-/
import Derived.Test.YtidoclepnecnbaaDoorOP7
namespace Go.Skm.Pio
open Go Go.Skm
theorem wrapU_eq {x : Int} (h1 : 0 ≤ x) (h2 : x ≤ 9223372036854775807) : IntKind.u64.wrap x = x := by
  have : ∀ y : Int, y = x % 2 ^ 64 → (if (false && decide (y ≥ 2 ^ (64 - 1))) = true then y - 2 ^ 64 else y) = x := by
    intro y hy
    rw [if_neg (by simp)]; omega
  exact this _ rfl
def rowL (p : Pi) (y : Int) (n : Nat) : List (Int × Int × Int) := (List.range n).map fun x : Nat => pixF (x : Int) y p.d (p.a, p.e, p.b)
@[simp] theorem rowL_length (p : Pi) (y : Int) (n : Nat) : (rowL p y n).length = n := by simp [rowL]
section
variable (X : Ext) (hX : Mine X)
include hX
theorem c74 (n : Nat) (h : n < 4097) : run tab X 74 [.p (.int .u64 1), .p (.int .u64 (n : Int))] [] = some ([.p (.int .u64 0), .p (.int .u64 (n : Int))], []) :=
  run_of (hX _ rfl) (by
    rw [e74]
    have key : ∀ a b a' b' : Int, a = a' → b = b' → (some ([AV.p (.int .u64 a), AV.p (.int .u64 b)], []) : Option (List AV × List Blk)) = some ([AV.p (.int .u64 a'), AV.p (.int .u64 b')], []) := fun a b a' b' h1 h2 => by rw [h1, h2]
    refine key _ _ _ _ ?_ ?_
    · clear key
      obtain ⟨a, b, ha, hb, rfl⟩ : ∃ a b, a < 65 ∧ b < 64 ∧ n = 64 * a + b := ⟨n / 64, n % 64, by omega, by omega, by omega⟩
      clear h
      revert hb
      revert b
      revert ha
      revert a
      decide +kernel
    · rw [Int.one_mul]; exact wrapU_eq (by omega) (by omega))
theorem c64 (n : Nat) (h : n < 4097) : run tab X 64 [.p (.int .u64 1), .p (.int .u64 (n : Int))] [] = some ([.p (.int .u64 0), .p (.int .u64 (n : Int))], []) :=
  run_of (hX _ rfl) (by
    rw [e64]
    exact bindS (c74 X hX n h) rfl)
omit hX in
theorem c51_loop (c : PV) (n : Nat) (hn : n ≤ 4096) : ∀ (j m : Nat) (B : List PV), n - m ≤ j → 1 ≤ m → m ≤ n → B.length = n → B.take m = List.replicate m c →
    L tab (run tab X) 51 [] [.lp [1, 1, 1, 1, 1, 1, 0, 0]] (S51_11111100 0 n (m : Int) B) = some ([.fresh true kC (List.replicate n c)], []) := by
  have fin : ∀ (m : Nat) (B : List PV), m = n → B.length = n → B.take m = List.replicate m c → L tab (run tab X) 51 [] [.lp [1, 1, 1, 1, 1, 1, 0, 0]] (S51_11111100 0 n (m : Int) B) = some ([.fresh true kC (List.replicate n c)], []) := by
    intro m B hm hB ht
    refine L_of ?_
    rw [e51_11111100]
    refine condNP (show ¬ (m : Int) < (n : Int) by omega) ?_
    rw [List.drop_zero, ← hm, ht]
  intro j
  induction j with
  | zero => intro m B h1 h2 h3 hB ht; exact fin m B (by omega) hB ht
  | succ j ih =>
    intro m B h1 h2 h3 hB ht
    by_cases e : m = n
    · exact fin m B e hB ht
    · have t1 : ((m : Int) - 0).toNat = m := by omega
      have t2 : ((n : Int) - (m : Int)).toNat = n - m := by omega
      have t3 : IntKind.i64.wrap ((m : Int) + ((Nat.min m (n - m) : Nat) : Int)) = ((m + Nat.min m (n - m) : Nat) : Int) := by
        have : Nat.min m (n - m) ≤ m := Nat.min_le_left _ _
        rw [wrap_eq (by omega) (by omega)]; omega
      have hk : Nat.min m (n - m) ≤ n - m := Nat.min_le_right _ _
      have hk1 : Nat.min m (n - m) ≤ m := Nat.min_le_left _ _
      have hk2 : 1 ≤ Nat.min m (n - m) := Nat.le_min.2 ⟨h2, by omega⟩
      refine L_of ?_
      rw [e51_11111100]
      simp only [condD, condA, t1, t2, t3, Int.toNat_natCast, Nat.zero_add, List.drop_zero, ht]
      rw [if_pos (by omega), if_pos (by omega), if_pos (by omega), if_pos (by omega), if_pos (by omega), if_pos (by omega), if_pos (by omega), if_pos (by omega)]
      generalize Nat.min m (n - m) = k at *
      have ev : (List.replicate m c).take k = List.replicate k c := by rw [List.take_replicate, Nat.min_eq_left hk1]
      rw [ev]
      refine ih (m + k) _ (by omega) (by omega) (by omega) ?_ ?_
      · simp only [patch, List.length_append, List.length_take, List.length_replicate, List.length_drop, hB]; omega
      · simp only [patch, List.length_replicate, ht]
        rw [List.take_left' (by simp), List.replicate_append_replicate]
theorem c51 (c : PV) (n : Nat) (h0 : 1 ≤ n) (hn : n ≤ 4096) : run tab X 51 [.p (.list true kC [c]), .p (.int .i64 (n : Int))] [] = some ([.fresh true kC (List.replicate n c)], []) :=
  run_of (hX _ rfl) (by
    have w0 : IntKind.u64.wrap (n : Int) = (n : Int) := wrapU_eq (by omega) (by omega)
    have w1 : IntKind.i64.wrap (n : Int) = (n : Int) := wrap_eq (by omega) (by omega)
    rw [e51, w0]
    refine condNP (show ¬ (n : Int) < 0 by omega) ?_
    refine bindS (c64 X hX n (by omega)) ?_
    refine condNP (show ¬ (0 : Int) > 0 by omega) ?_
    refine condNP (show ¬ (n : Int) > 9223372036854775807 by omega) ?_
    have e1 : ((([AV.p (.int .u64 0), AV.p (.int .u64 (n : Int))], ([] : List Blk)).1.tail.headD .undef).pv.toInt) = (n : Int) := rfl
    rw [e1, w1]
    simp only [condA, condD, Int.toNat_natCast]
    rw [if_pos (by omega), if_pos (by omega), if_pos (by omega)]
    have e2 : Nat.min [c].length n = 1 := by
      show Nat.min 1 n = 1
      exact Nat.min_eq_left h0
    rw [e2]
    refine c51_loop X c n hn n 1 _ (by omega) (by omega) h0 ?_ ?_
    · simp [patch]; omega
    · simp [patch])
end
end Go.Skm.Pio
