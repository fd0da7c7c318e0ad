/-
  The colour with a text, as the program reads it; condition: a text that fits.
-/
import Derived.Test.YtidoclepnecnbaaGreatDoorP3
namespace Go.Skm.Drw
open Go Go.Skm
def nib (p n : Int) : Int := IntKind.u8.wrap ((IntKind.u8.wrap (p * (16 : Int))) + (IntKind.u8.wrap n))
theorem nib0 {n : Int} (h0 : 0 ≤ n) (h1 : n < 16) : nib 0 n = n := by
  unfold nib
  rw [wrap8_eq (x := n) ⟨by omega, by omega⟩, Int.zero_mul, wrap8_eq (x := 0) ⟨by omega, by omega⟩, Int.zero_add, wrap8_eq ⟨by omega, by omega⟩]
theorem nib1 {p n : Int} (p0 : 0 ≤ p) (p1 : p < 16) (h0 : 0 ≤ n) (h1 : n < 16) : nib p n = 16 * p + n := by
  unfold nib
  rw [wrap8_eq (x := n) ⟨by omega, by omega⟩, wrap8_eq (x := p * 16) ⟨by omega, by omega⟩, wrap8_eq ⟨by omega, by omega⟩]
  omega
section
variable (X : Ext) (hX : Mine X)
include hX
set_option maxHeartbeats 1000000 in
theorem c46_step {s : List UInt8} (hs : s.length = 7) (i : Nat) (hi : i < 6) (l0 l1 l2 : Int) :
    (dg (s.getD (i + 1) 0) < 0 → L tab (run tab X) 46 [] [.lp [1, 1, 1, 0, 1, 0]] (S46_111010 (ba s) i 0 0 0 l0 l1 l2) = some (colR none)) ∧
    (0 ≤ dg (s.getD (i + 1) 0) → ∀ x, L tab (run tab X) 46 [] [.lp [1, 1, 1, 0, 1, 0]] (S46_111010 (ba s) (i + 1 : Nat) 0 0 0
      (if i / 2 = 0 then nib l0 (dg (s.getD (i + 1) 0)) else l0) (if i / 2 = 1 then nib l1 (dg (s.getD (i + 1) 0)) else l1) (if i / 2 = 2 then nib l2 (dg (s.getD (i + 1) 0)) else l2)) = some x →
      L tab (run tab X) 46 [] [.lp [1, 1, 1, 0, 1, 0]] (S46_111010 (ba s) i 0 0 0 l0 l1 l2) = some x) := by
  have w : IntKind.i64.wrap ((i : Int) + 1) = ((i + 1 : Nat) : Int) := by rw [wrap_eq (by omega) (by omega)]; omega
  have w2 : IntKind.i64.wrap ((i : Int).tdiv 2) = ((i / 2 : Nat) : Int) := by
    rw [Int.tdiv_eq_ediv_of_nonneg (by omega), wrap_eq (by omega) (by omega)]; omega
  constructor
  · intro hbad
    refine L_of ?_
    rw [e46_111010]
    simp only [condD, condA, w, w2, Int.toNat_natCast, ba_getD, ba_size, c68 X hX, Option.bind_some, List.headD_cons, pv_p, toInt_int]
    rw [if_pos (by omega), if_pos (by omega), if_pos (by omega)]
    exact iteP hbad rfl
  · intro h1 x hn
    refine L_of ?_
    rw [e46_111010]
    simp only [condD, condA, w, w2, Int.toNat_natCast, ba_getD, ba_size, c68 X hX, Option.bind_some, List.headD_cons, pv_p, toInt_int]
    rw [if_pos (by omega), if_pos (by omega), if_pos (by omega)]
    refine iteN (show ¬ dg (s.getD (i + 1) 0) < 0 by omega) ?_
    rw [if_pos (by omega), if_pos (by omega)]
    match i, hi with
    | 0, _ => exact hn
    | 1, _ => exact hn
    | 2, _ => exact hn
    | 3, _ => exact hn
    | 4, _ => exact hn
    | 5, _ => exact hn
theorem c46_end {s : List UInt8} {r e b : Int} (h1 : In8 r) (h2 : In8 e) (h3 : In8 b) : L tab (run tab X) 46 [] [.lp [1, 1, 1, 0, 1, 0]] (S46_111010 (ba s) (6 : Nat) 0 0 0 r e b) = some (colR (if colT r e b = s then some (r, e, b) else none)) := by
  refine L_of ?_
  rw [e46_111010]
  simp only [condD]
  rw [if_neg (by omega), c39 X hX h1 h2 h3]
  simp only [Option.bind_some, List.headD_cons, pv_p, toStr_str, ba_beq, condO]
  by_cases h : colT r e b = s
  · subst h; simp [colR]
  · have h' : ¬ ba (colT r e b) = ba s := fun e => h (ba_inj.1 e)
    simp [h, h', colR]
theorem c46 (s : List UInt8) : run tab X 46 [.p (.str (ba s))] [] = some (colR (parseC s)) := by
  refine run_of (hX _ rfl) ?_
  rw [e46]
  simp only [condN, ba_size]
  by_cases hs : s.length = 7
  · rw [if_pos (by omega)]
    obtain ⟨a, b, c, d, e, f, g, rfl⟩ := seven hs
    obtain ⟨b0, s0⟩ := c46_step X hX (s := [a, b, c, d, e, f, g]) rfl 0 (by omega) 0 0 0
    by_cases k0 : dg b < 0
    · rw [show parseC [a, b, c, d, e, f, g] = none from if_neg (by omega)]
      exact b0 k0
    refine s0 (by show 0 ≤ dg b; omega) _ ?_
    obtain ⟨b1, s1⟩ := c46_step X hX (s := [a, b, c, d, e, f, g]) rfl 1 (by omega) (nib 0 (dg b)) 0 0
    by_cases k1 : dg c < 0
    · rw [show parseC [a, b, c, d, e, f, g] = none from if_neg (by omega)]
      exact b1 k1
    refine s1 (by show 0 ≤ dg c; omega) _ ?_
    obtain ⟨b2, s2⟩ := c46_step X hX (s := [a, b, c, d, e, f, g]) rfl 2 (by omega) (nib (nib 0 (dg b)) (dg c)) 0 0
    by_cases k2 : dg d < 0
    · rw [show parseC [a, b, c, d, e, f, g] = none from if_neg (by omega)]
      exact b2 k2
    refine s2 (by show 0 ≤ dg d; omega) _ ?_
    obtain ⟨b3, s3⟩ := c46_step X hX (s := [a, b, c, d, e, f, g]) rfl 3 (by omega) (nib (nib 0 (dg b)) (dg c)) (nib 0 (dg d)) 0
    by_cases k3 : dg e < 0
    · rw [show parseC [a, b, c, d, e, f, g] = none from if_neg (by omega)]
      exact b3 k3
    refine s3 (by show 0 ≤ dg e; omega) _ ?_
    obtain ⟨b4, s4⟩ := c46_step X hX (s := [a, b, c, d, e, f, g]) rfl 4 (by omega) (nib (nib 0 (dg b)) (dg c)) (nib (nib 0 (dg d)) (dg e)) 0
    by_cases k4 : dg f < 0
    · rw [show parseC [a, b, c, d, e, f, g] = none from if_neg (by omega)]
      exact b4 k4
    refine s4 (by show 0 ≤ dg f; omega) _ ?_
    obtain ⟨b5, s5⟩ := c46_step X hX (s := [a, b, c, d, e, f, g]) rfl 5 (by omega) (nib (nib 0 (dg b)) (dg c)) (nib (nib 0 (dg d)) (dg e)) (nib 0 (dg f))
    by_cases k5 : dg g < 0
    · rw [show parseC [a, b, c, d, e, f, g] = none from if_neg (by omega)]
      exact b5 k5
    refine s5 (by show 0 ≤ dg g; omega) _ ?_
    have lt : ∀ x : UInt8, dg x < 16 := fun x => by rcases dg_cases x with h | ⟨-, h, -⟩ <;> omega
    have n : ∀ x y : UInt8, ¬ dg x < 0 → ¬ dg y < 0 → nib (nib 0 (dg x)) (dg y) = 16 * dg x + dg y := fun x y hx hy => by
      rw [nib0 (by omega) (lt x), nib1 (by omega) (lt x) (by omega) (lt y)]
    change L tab (run tab X) 46 [] [.lp [1, 1, 1, 0, 1, 0]] (S46_111010 (ba [a, b, c, d, e, f, g]) (6 : Nat) 0 0 0 (nib (nib 0 (dg b)) (dg c)) (nib (nib 0 (dg d)) (dg e)) (nib (nib 0 (dg f)) (dg g))) = _
    rw [n b c k0 k1, n d e k2 k3, n f g k4 k5]
    obtain ⟨p1, p2, p3⟩ := two_in (a := b) (b := c) (by omega) (by omega)
    obtain ⟨q1, q2, q3⟩ := two_in (a := d) (b := e) (by omega) (by omega)
    obtain ⟨t1, t2, t3⟩ := two_in (a := f) (b := g) (by omega) (by omega)
    rw [c46_end X hX p1 q1 t1]
    have ct : colT (16 * dg b + dg c) (16 * dg d + dg e) (16 * dg f + dg g) = [35, b, c, d, e, f, g] := by
      unfold colT; rw [p2, p3, q2, q3, t2, t3]
    rw [ct]
    by_cases ha : a = 35
    · subst ha
      rw [if_pos rfl, show parseC [35, b, c, d, e, f, g] = some (16 * dg b + dg c, 16 * dg d + dg e, 16 * dg f + dg g) from if_pos ⟨rfl, by omega, by omega, by omega, by omega, by omega, by omega⟩]
    · rw [if_neg (fun h => ha (List.cons.inj h).1.symm), show parseC [a, b, c, d, e, f, g] = none from if_neg (fun h => ha h.1)]
  · rw [if_neg (by omega), parseC_len hs]; rfl
end
end Go.Skm.Drw
