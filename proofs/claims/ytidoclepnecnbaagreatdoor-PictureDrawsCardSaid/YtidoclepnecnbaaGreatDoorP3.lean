/-
  The colour with a text: both read the same; condition: a text that fits.
-/
import Derived.Test.YtidoclepnecnbaaGreatDoorP2
namespace Go.Skm.Drw
open Go Go.Skm
def hexI : List Int := [48, 49, 50, 51, 52, 53, 54, 55, 56, 57, 97, 98, 99, 100, 101, 102]
def idxF (c : Int) : List Int → Int → Int
  | [], _ => -1
  | x :: r, i => if c = x then i else idxF c r (i + 1)
def dg (x : UInt8) : Int := idxF ((x.toNat : Nat) : Int) hexI 0
theorem dg_all : ∀ n : Fin 256, idxF ((n.val : Nat) : Int) hexI 0 = -1 ∨ (0 ≤ idxF ((n.val : Nat) : Int) hexI 0 ∧ idxF ((n.val : Nat) : Int) hexI 0 < 16 ∧ (hx (idxF ((n.val : Nat) : Int) hexI 0)).toNat = n.val) := by decide +kernel
theorem dg_cases (x : UInt8) : dg x = -1 ∨ (0 ≤ dg x ∧ dg x < 16 ∧ hx (dg x) = x) := by
  rcases dg_all ⟨x.toNat, UInt8.toNat_lt x⟩ with h | ⟨h1, h2, h3⟩
  · exact .inl h
  · exact .inr ⟨h1, h2, UInt8.toNat_inj.1 h3⟩
def parseC : List UInt8 → Option (Int × Int × Int)
  | [h, a, b, c, d, e, f] => if h = 35 ∧ 0 ≤ dg a ∧ 0 ≤ dg b ∧ 0 ≤ dg c ∧ 0 ≤ dg d ∧ 0 ≤ dg e ∧ 0 ≤ dg f then some (16 * dg a + dg b, 16 * dg c + dg d, 16 * dg e + dg f) else none
  | _ => none
def colR : Option (Int × Int × Int) → List AV × List Blk
  | some (r, e, b) => ([.p (colP r e b), .p (.int .i64 0)], [])
  | none => ([.p (colP 0 0 0), .p (.int .i64 6)], [])
theorem parseC_len {s : List UInt8} (h : s.length ≠ 7) : parseC s = none := by
  unfold parseC
  split
  · simp at h
  · rfl
theorem seven {s : List UInt8} (h : s.length = 7) : ∃ a b c d e f g, s = [a, b, c, d, e, f, g] := by
  match s, h with
  | [a, b, c, d, e, f, g], _ => exact ⟨a, b, c, d, e, f, g, rfl⟩
theorem two_in {a b : UInt8} (h1 : 0 ≤ dg a) (h2 : 0 ≤ dg b) : In8 (16 * dg a + dg b) ∧ hx ((16 * dg a + dg b) / 16) = a ∧ hx ((16 * dg a + dg b) % 16) = b := by
  rcases dg_cases a with h | ⟨a1, a2, a3⟩
  · omega
  rcases dg_cases b with h | ⟨b1, b2, b3⟩
  · omega
  refine ⟨by unfold In8; omega, ?_, ?_⟩
  · rw [show (16 * dg a + dg b) / 16 = dg a by omega, a3]
  · rw [show (16 * dg a + dg b) % 16 = dg b by omega, b3]
section
variable (X : Ext) (hX : Mine X)
theorem c68_loop (c : Int) : ∀ (n i : Nat), i + n = 16 →
    L tab (run tab X) 68 [] [.lp [1, 0, 1, 0]] (S68_1010 (hexI.map fun x => .int .u8 x) c 16 i) = some ([.p (.int .i64 (idxF c (hexI.drop i) i))], []) := by
  intro n
  induction n with
  | zero =>
    intro i hi
    have : i = 16 := by omega
    subst this
    refine L_of ?_
    rw [e68_1010]
    simp only [condD]
    rw [if_neg (by omega)]; rfl
  | succ n ih =>
    intro i hi
    have w : IntKind.i64.wrap ((i : Int) + 1) = ((i + 1 : Nat) : Int) := by rw [wrap_eq (by omega) (by omega)]; omega
    have ih' := ih (i + 1) (by omega)
    have hlt : i < hexI.length := by show i < 16; omega
    have hg : (((hexI.map fun x => PV.int .u8 x).getD (i : Int).toNat .nil).cell 0).toInt = hexI[i] := by
      rw [Int.toNat_natCast, List.getD_eq_getElem?_getD, List.getElem?_map, List.getElem?_eq_getElem hlt]; rfl
    have hl : ((hexI.map fun x => PV.int .u8 x).length : Int) = 16 := rfl
    refine L_of ?_
    rw [e68_1010]
    simp only [condD, condA, condE, hg, hl, w, ih']
    rw [if_pos (by omega), if_pos (by omega), if_pos (by omega), List.drop_eq_getElem_cons hlt, idxF]
    by_cases h : c = hexI[i]
    · rw [if_pos h, if_pos h]
    · rw [if_neg h, if_neg h]; rfl
include hX
theorem c68 (x : UInt8) : run tab X 68 [.p (.list false [.int .u8] [.int .u8 48, .int .u8 49, .int .u8 50, .int .u8 51, .int .u8 52, .int .u8 53, .int .u8 54, .int .u8 55, .int .u8 56, .int .u8 57, .int .u8 97, .int .u8 98, .int .u8 99, .int .u8 100, .int .u8 101, .int .u8 102]), .p (.int .u8 ((x.toNat : Nat) : Int))] [] = some ([.p (.int .i64 (dg x))], []) :=
  run_of (hX _ rfl) (by
    rw [e68]
    exact c68_loop X _ 16 0 rfl)
end
end Go.Skm.Drw
