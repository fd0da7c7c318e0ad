/-
  The colour with a text: both read the same; condition: a text that fits.
-/
import Derived.Test.YtdhkklplijleiaaGreatDoorC5
namespace Go.Skm.Cue
open Go Go.Skm
def hexI : List Int := [48, 49, 50, 51, 52, 53, 54, 55, 56, 57, 97, 98, 99, 100, 101, 102]
def idxF (c : Int) : List Int → Int → Int
  | [], _ => -1
  | x :: r, i => if c = x then i else idxF c r (i + 1)
def dg (x : UInt8) : Int := idxF ((x.toNat : Nat) : Int) hexI 0
theorem dg_all : ∀ n : Fin 256, idxF ((n.val : Nat) : Int) hexI 0 = -1 ∨ (0 ≤ idxF ((n.val : Nat) : Int) hexI 0 ∧ idxF ((n.val : Nat) : Int) hexI 0 < 16 ∧ (hx (idxF ((n.val : Nat) : Int) hexI 0)).toNat = n.val) := by decide +kernel
theorem dg_cases (x : UInt8) : dg x = -1 ∨ (0 ≤ dg x ∧ dg x < 16 ∧ hx (dg x) = x) := by
  rcases dg_all ⟨x.toNat, UInt8.toNat_lt x⟩ with h | ⟨h1, h2, h3⟩
  · exact .inl h
  · exact .inr ⟨h1, h2, UInt8.toNat_inj.1 h3⟩
theorem dg_hx_all : ∀ n : Fin 16, dg (hx (n.val : Nat)) = (n.val : Nat) := by decide +kernel
theorem dg_hx {n : Int} (h0 : 0 ≤ n) (h1 : n < 16) : dg (hx n) = n := by
  have := dg_hx_all ⟨n.toNat, by omega⟩
  simp only at this
  rwa [show ((n.toNat : Nat) : Int) = n by omega] at this
def parseC : List UInt8 → Option (Int × Int × Int)
  | [h, a, b, c, d, e, f] => if h = 35 ∧ 0 ≤ dg a ∧ 0 ≤ dg b ∧ 0 ≤ dg c ∧ 0 ≤ dg d ∧ 0 ≤ dg e ∧ 0 ≤ dg f then some (16 * dg a + dg b, 16 * dg c + dg d, 16 * dg e + dg f) else none
  | _ => none
def colR : Option (Int × Int × Int) → List AV × List Blk
  | some (r, e, b) => ([.p (colP r e b), .p (.int .i64 0)], [])
  | none => ([.p (colP 0 0 0), .p (.int .i64 6)], [])
theorem parseC_len {s : List UInt8} (h : s.length ≠ 7) : parseC s = none := by
  unfold parseC
  split
  · simp at h
  · rfl
theorem seven {s : List UInt8} (h : s.length = 7) : ∃ a b c d e f g, s = [a, b, c, d, e, f, g] := by
  match s, h with
  | [a, b, c, d, e, f, g], _ => exact ⟨a, b, c, d, e, f, g, rfl⟩
theorem two_in {a b : UInt8} (h1 : 0 ≤ dg a) (h2 : 0 ≤ dg b) : In8 (16 * dg a + dg b) ∧ hx ((16 * dg a + dg b) / 16) = a ∧ hx ((16 * dg a + dg b) % 16) = b := by
  rcases dg_cases a with h | ⟨a1, a2, a3⟩
  · omega
  rcases dg_cases b with h | ⟨b1, b2, b3⟩
  · omega
  refine ⟨by unfold In8; omega, ?_, ?_⟩
  · rw [show (16 * dg a + dg b) / 16 = dg a by omega, a3]
  · rw [show (16 * dg a + dg b) % 16 = dg b by omega, b3]
theorem parseC_some {s : List UInt8} {r e b : Int} (h : parseC s = some (r, e, b)) : (In8 r ∧ In8 e ∧ In8 b) ∧ s = colT r e b := by
  unfold parseC at h
  split at h
  · next x y0 y1 y2 y3 y4 y5 =>
    split at h
    · next hh =>
      obtain ⟨rfl, h1, h2, h3, h4, h5, h6⟩ := hh
      simp only [Option.some.injEq, Prod.mk.injEq] at h
      obtain ⟨rfl, rfl, rfl⟩ := h
      obtain ⟨p1, p2, p3⟩ := two_in h1 h2
      obtain ⟨q1, q2, q3⟩ := two_in h3 h4
      obtain ⟨t1, t2, t3⟩ := two_in h5 h6
      exact ⟨⟨p1, q1, t1⟩, by unfold colT; rw [p2, p3, q2, q3, t2, t3]⟩
    · cases h
  · cases h
theorem parseC_colT {r e b : Int} (h1 : In8 r) (h2 : In8 e) (h3 : In8 b) : parseC (colT r e b) = some (r, e, b) := by
  unfold In8 at h1 h2 h3
  unfold colT parseC
  simp only
  rw [dg_hx (n := r / 16) (by omega) (by omega), dg_hx (n := r % 16) (by omega) (by omega), dg_hx (n := e / 16) (by omega) (by omega), dg_hx (n := e % 16) (by omega) (by omega), dg_hx (n := b / 16) (by omega) (by omega), dg_hx (n := b % 16) (by omega) (by omega)]
  rw [if_pos ⟨trivial, by omega, by omega, by omega, by omega, by omega, by omega⟩]
  simp only [Option.some.injEq, Prod.mk.injEq]
  refine ⟨?_, ?_, ?_⟩ <;> omega
section
variable (X : Ext) (hX : Mine X)
theorem c78_loop (c : Int) : ∀ (n i : Nat), i + n = 16 →
    L tab (run tab X) 78 [] [.lp [1, 0, 1, 0]] (S78_1010 (hexI.map fun x => .int .u8 x) c 16 i) = some ([.p (.int .i64 (idxF c (hexI.drop i) i))], []) := by
  intro n
  induction n with
  | zero =>
    intro i hi
    have : i = 16 := by omega
    subst this
    refine L_of ?_
    rw [e78_1010]
    simp only [condD]
    rw [if_neg (by omega)]; rfl
  | succ n ih =>
    intro i hi
    have w : IntKind.i64.wrap ((i : Int) + 1) = ((i + 1 : Nat) : Int) := by rw [wrap_eq (by omega) (by omega)]; omega
    have ih' := ih (i + 1) (by omega)
    have hlt : i < hexI.length := by show i < 16; omega
    have hg : (((hexI.map fun x => PV.int .u8 x).getD (i : Int).toNat .nil).cell 0).toInt = hexI[i] := by
      rw [Int.toNat_natCast, List.getD_eq_getElem?_getD, List.getElem?_map, List.getElem?_eq_getElem hlt]; rfl
    have hl : ((hexI.map fun x => PV.int .u8 x).length : Int) = 16 := rfl
    refine L_of ?_
    rw [e78_1010]
    simp only [condD, condA, condE, hg, hl, w, ih']
    rw [if_pos (by omega), if_pos (by omega), if_pos (by omega), List.drop_eq_getElem_cons hlt, idxF]
    by_cases h : c = hexI[i]
    · rw [if_pos h, if_pos h]
    · rw [if_neg h, if_neg h]; rfl
include hX
theorem c78 (x : UInt8) : run tab X 78 [.p (.list false [.int .u8] [.int .u8 48, .int .u8 49, .int .u8 50, .int .u8 51, .int .u8 52, .int .u8 53, .int .u8 54, .int .u8 55, .int .u8 56, .int .u8 57, .int .u8 97, .int .u8 98, .int .u8 99, .int .u8 100, .int .u8 101, .int .u8 102]), .p (.int .u8 ((x.toNat : Nat) : Int))] [] = some ([.p (.int .i64 (dg x))], []) :=
  run_of (hX _ rfl) (by
    rw [e78]
    exact c78_loop X _ 16 0 rfl)
end
end Go.Skm.Cue
