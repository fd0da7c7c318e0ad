/-
  The colour with a text: both read the same; condition: a text that fits.
-/
import Derived.Test.YtidoclepnecnbaaDoorP2
namespace Go.Skm.Pic
open Go Go.Skm
def hexI : List Int := [48, 49, 50, 51, 52, 53, 54, 55, 56, 57, 97, 98, 99, 100, 101, 102]
def idxF (c : Int) : List Int → Int → Int
  | [], _ => -1
  | x :: r, i => if c = x then i else idxF c r (i + 1)
def dg (x : UInt8) : Int := idxF ((x.toNat : Nat) : Int) hexI 0
theorem dg_all : ∀ n : Fin 256, idxF ((n.val : Nat) : Int) hexI 0 = -1 ∨ (0 ≤ idxF ((n.val : Nat) : Int) hexI 0 ∧ idxF ((n.val : Nat) : Int) hexI 0 < 16 ∧ (hx (idxF ((n.val : Nat) : Int) hexI 0)).toNat = n.val) := by decide +kernel
theorem dg_cases (x : UInt8) : dg x = -1 ∨ (0 ≤ dg x ∧ dg x < 16 ∧ hx (dg x) = x) := by
  rcases dg_all ⟨x.toNat, UInt8.toNat_lt x⟩ with h | ⟨h1, h2, h3⟩
  · exact .inl h
  · exact .inr ⟨h1, h2, UInt8.toNat_inj.1 h3⟩
theorem dg_hx_all : ∀ n : Fin 16, dg (hx (n.val : Nat)) = (n.val : Nat) := by decide +kernel
theorem dg_hx {n : Int} (h0 : 0 ≤ n) (h1 : n < 16) : dg (hx n) = n := by
  have := dg_hx_all ⟨n.toNat, by omega⟩
  simp only at this
  rwa [show ((n.toNat : Nat) : Int) = n by omega] at this
def parseC : List UInt8 → Option (Int × Int × Int)
  | [h, a, b, c, d, e, f] => if h = 35 ∧ 0 ≤ dg a ∧ 0 ≤ dg b ∧ 0 ≤ dg c ∧ 0 ≤ dg d ∧ 0 ≤ dg e ∧ 0 ≤ dg f then some (16 * dg a + dg b, 16 * dg c + dg d, 16 * dg e + dg f) else none
  | _ => none
def colR : Option (Int × Int × Int) → List AV × List Blk
  | some (r, e, b) => ([.p (colP r e b), .p (.int .i64 0)], [])
  | none => ([.p (colP 0 0 0), .p (.int .i64 6)], [])
theorem parseC_len {s : List UInt8} (h : s.length ≠ 7) : parseC s = none := by
  unfold parseC
  split
  · simp at h
  · rfl
theorem seven {s : List UInt8} (h : s.length = 7) : ∃ a b c d e f g, s = [a, b, c, d, e, f, g] := by
  match s, h with
  | [a, b, c, d, e, f, g], _ => exact ⟨a, b, c, d, e, f, g, rfl⟩
theorem two_in {a b : UInt8} (h1 : 0 ≤ dg a) (h2 : 0 ≤ dg b) : In8 (16 * dg a + dg b) ∧ hx ((16 * dg a + dg b) / 16) = a ∧ hx ((16 * dg a + dg b) % 16) = b := by
  rcases dg_cases a with h | ⟨a1, a2, a3⟩
  · omega
  rcases dg_cases b with h | ⟨b1, b2, b3⟩
  · omega
  refine ⟨by unfold In8; omega, ?_, ?_⟩
  · rw [show (16 * dg a + dg b) / 16 = dg a by omega, a3]
  · rw [show (16 * dg a + dg b) % 16 = dg b by omega, b3]
theorem parseC_some {s : List UInt8} {r e b : Int} (h : parseC s = some (r, e, b)) : (In8 r ∧ In8 e ∧ In8 b) ∧ s = colT r e b := by
  unfold parseC at h
  split at h
  · next x y0 y1 y2 y3 y4 y5 =>
    split at h
    · next hh =>
      obtain ⟨rfl, h1, h2, h3, h4, h5, h6⟩ := hh
      simp only [Option.some.injEq, Prod.mk.injEq] at h
      obtain ⟨rfl, rfl, rfl⟩ := h
      obtain ⟨p1, p2, p3⟩ := two_in h1 h2
      obtain ⟨q1, q2, q3⟩ := two_in h3 h4
      obtain ⟨t1, t2, t3⟩ := two_in h5 h6
      exact ⟨⟨p1, q1, t1⟩, by unfold colT; rw [p2, p3, q2, q3, t2, t3]⟩
    · cases h
  · cases h
theorem parseC_colT {r e b : Int} (h1 : In8 r) (h2 : In8 e) (h3 : In8 b) : parseC (colT r e b) = some (r, e, b) := by
  unfold In8 at h1 h2 h3
  unfold colT parseC
  simp only
  rw [dg_hx (n := r / 16) (by omega) (by omega), dg_hx (n := r % 16) (by omega) (by omega), dg_hx (n := e / 16) (by omega) (by omega), dg_hx (n := e % 16) (by omega) (by omega), dg_hx (n := b / 16) (by omega) (by omega), dg_hx (n := b % 16) (by omega) (by omega)]
  rw [if_pos ⟨trivial, by omega, by omega, by omega, by omega, by omega, by omega⟩]
  simp only [Option.some.injEq, Prod.mk.injEq]
  refine ⟨?_, ?_, ?_⟩ <;> omega
theorem hex_get (i : Nat) (hi : i < 16) : (((⟨#[48, 49, 50, 51, 52, 53, 54, 55, 56, 57, 97, 98, 99, 100, 101, 102]⟩ : ByteArray).data.getD i 0).toNat : Int) = hexI[i]'hi := by
  have : ∀ j : Fin 16, (((⟨#[48, 49, 50, 51, 52, 53, 54, 55, 56, 57, 97, 98, 99, 100, 101, 102]⟩ : ByteArray).data.getD j.val 0).toNat : Int) = hexI[j.val]'j.isLt := by decide +kernel
  exact this ⟨i, hi⟩
section
variable (X : Ext) (hX : Mine X)
theorem c72_loop (c : Int) : ∀ (n i : Nat), i + n = 16 →
    L tab (run tab X) 72 [] [.lp [1, 0, 1, 0]] (S72_1010 (hexI.map fun x => .int .u8 x) c 16 i) = some ([.p (.int .i64 (idxF c (hexI.drop i) i))], []) := by
  intro n
  induction n with
  | zero =>
    intro i hi
    have : i = 16 := by omega
    subst this
    refine L_of ?_
    rw [e72_1010]
    simp only [condD]
    rw [if_neg (by omega)]; rfl
  | succ n ih =>
    intro i hi
    have w : IntKind.i64.wrap ((i : Int) + 1) = ((i + 1 : Nat) : Int) := by rw [wrap_eq (by omega) (by omega)]; omega
    have ih' := ih (i + 1) (by omega)
    have hlt : i < hexI.length := by show i < 16; omega
    have hg : (((hexI.map fun x => PV.int .u8 x).getD (i : Int).toNat .nil).cell 0).toInt = hexI[i] := by
      rw [Int.toNat_natCast, List.getD_eq_getElem?_getD, List.getElem?_map, List.getElem?_eq_getElem hlt]; rfl
    have hl : ((hexI.map fun x => PV.int .u8 x).length : Int) = 16 := rfl
    refine L_of ?_
    rw [e72_1010]
    simp only [condD, condA, condE, hg, hl, w, ih']
    rw [if_pos (by omega), if_pos (by omega), if_pos (by omega), List.drop_eq_getElem_cons hlt, idxF]
    by_cases h : c = hexI[i]
    · rw [if_pos h, if_pos h]
    · rw [if_neg h, if_neg h]; rfl
theorem c61_loop (c : Int) : ∀ (n i : Nat), i + n = 16 →
    L tab (run tab X) 61 [] [.lp [1, 0, 1, 0]] (S61_1010 c i) = some ([.p (.int .i64 (idxF c (hexI.drop i) i))], []) := by
  intro n
  induction n with
  | zero =>
    intro i hi
    have : i = 16 := by omega
    subst this
    refine L_of ?_
    rw [e61_1010]
    simp only [condD]
    rw [if_neg (by omega)]; rfl
  | succ n ih =>
    intro i hi
    have w : IntKind.i64.wrap ((i : Int) + 1) = ((i + 1 : Nat) : Int) := by rw [wrap_eq (by omega) (by omega)]; omega
    have ih' := ih (i + 1) (by omega)
    have hlt : i < hexI.length := by show i < 16; omega
    have sz : ((⟨#[48, 49, 50, 51, 52, 53, 54, 55, 56, 57, 97, 98, 99, 100, 101, 102]⟩ : ByteArray).size : Int) = 16 := rfl
    refine L_of ?_
    rw [e61_1010]
    simp only [condD, condA, condE, sz, w, ih', Int.toNat_natCast, hex_get i (by omega)]
    rw [if_pos (by omega), if_pos (by omega), if_pos (by omega), List.drop_eq_getElem_cons hlt, idxF]
    by_cases h : c = hexI[i]
    · refine iteP h.symm ?_
      rw [if_pos h]
    · refine iteN (fun e => h e.symm) ?_
      rw [if_neg h]; rfl
include hX
theorem c72 (x : UInt8) : run tab X 72 [.p (.list false [.int .u8] [.int .u8 48, .int .u8 49, .int .u8 50, .int .u8 51, .int .u8 52, .int .u8 53, .int .u8 54, .int .u8 55, .int .u8 56, .int .u8 57, .int .u8 97, .int .u8 98, .int .u8 99, .int .u8 100, .int .u8 101, .int .u8 102]), .p (.int .u8 ((x.toNat : Nat) : Int))] [] = some ([.p (.int .i64 (dg x))], []) :=
  run_of (hX _ rfl) (by
    rw [e72]
    exact c72_loop X _ 16 0 rfl)
theorem c61 (x : UInt8) : run tab X 61 [.p (.int .u8 ((x.toNat : Nat) : Int))] [] = some ([.p (.int .i64 (dg x))], []) :=
  run_of (hX _ rfl) (by
    rw [e61]
    exact c61_loop X _ 16 0 rfl)
theorem c44_step {s : List UInt8} (hs : s.length = 7) (i : Nat) (hi : i < 3) (l0 l1 l2 : Int) :
    (dg (s.getD (1 + 2 * i) 0) < 0 ∨ dg (s.getD (2 + 2 * i) 0) < 0 → L tab (run tab X) 44 [] [.lp [1, 1, 1, 0, 1, 0]] (S44_111010 (ba s) i 0 0 0 l0 l1 l2) = some (colR none)) ∧
    (0 ≤ dg (s.getD (1 + 2 * i) 0) → 0 ≤ dg (s.getD (2 + 2 * i) 0) → ∀ x, L tab (run tab X) 44 [] [.lp [1, 1, 1, 0, 1, 0]] (S44_111010 (ba s) (i + 1 : Nat) 0 0 0
      (if i = 0 then 16 * dg (s.getD (1 + 2 * i) 0) + dg (s.getD (2 + 2 * i) 0) else l0) (if i = 1 then 16 * dg (s.getD (1 + 2 * i) 0) + dg (s.getD (2 + 2 * i) 0) else l1) (if i = 2 then 16 * dg (s.getD (1 + 2 * i) 0) + dg (s.getD (2 + 2 * i) 0) else l2)) = some x →
      L tab (run tab X) 44 [] [.lp [1, 1, 1, 0, 1, 0]] (S44_111010 (ba s) i 0 0 0 l0 l1 l2) = some x) := by
  have w : IntKind.i64.wrap ((i : Int) + 1) = ((i + 1 : Nat) : Int) := by rw [wrap_eq (by omega) (by omega)]; omega
  have w0 : IntKind.i64.wrap (2 * (i : Int)) = 2 * (i : Int) := wrap_eq (by omega) (by omega)
  have w1 : IntKind.i64.wrap ((1 : Int) + 2 * (i : Int)) = ((1 + 2 * i : Nat) : Int) := by rw [wrap_eq (by omega) (by omega)]; omega
  have w2 : IntKind.i64.wrap ((2 : Int) + 2 * (i : Int)) = ((2 + 2 * i : Nat) : Int) := by rw [wrap_eq (by omega) (by omega)]; omega
  constructor
  · intro hbad
    refine L_of ?_
    rw [e44_111010]
    simp only [condD, condA, w, w0, w1, w2, Int.toNat_natCast, ba_getD, ba_size, c61 X hX, Option.bind_some, List.headD_cons, pv_p, toInt_int]
    rw [if_pos (by omega), if_pos (by omega), if_pos (by omega), if_pos (by omega), if_pos (by omega)]
    by_cases h1 : dg (s.getD (1 + 2 * i) 0) < 0
    · exact iteP h1 rfl
    · exact iteN h1 (iteP (by omega) rfl)
  · intro h1 h2 x hn
    have v1 := two_in h1 h2
    have u1 : IntKind.i64.wrap (16 * dg (s.getD (1 + 2 * i) 0)) = 16 * dg (s.getD (1 + 2 * i) 0) := by
      have := v1.1; unfold In8 at this; exact wrap_eq (by omega) (by omega)
    have u2 : IntKind.u8.wrap (IntKind.i64.wrap (16 * dg (s.getD (1 + 2 * i) 0) + dg (s.getD (2 + 2 * i) 0))) = 16 * dg (s.getD (1 + 2 * i) 0) + dg (s.getD (2 + 2 * i) 0) := by
      rw [wrap_eq (by have := v1.1; unfold In8 at this; omega) (by have := v1.1; unfold In8 at this; omega), wrap8_eq v1.1]
    refine L_of ?_
    rw [e44_111010]
    simp only [condD, condA, w, w0, w1, w2, Int.toNat_natCast, ba_getD, ba_size, c61 X hX, Option.bind_some, List.headD_cons, pv_p, toInt_int, u1, u2]
    rw [if_pos (by omega), if_pos (by omega), if_pos (by omega), if_pos (by omega), if_pos (by omega), if_neg (by omega), if_neg (by omega), if_pos (by omega), if_pos (by omega)]
    match i, hi with
    | 0, _ => exact hn
    | 1, _ => exact hn
    | 2, _ => exact hn
theorem c44 (s : List UInt8) (hl : s.length ≤ maxLen) : run tab X 44 [.p (.str (ba s))] [] = some (colR (parseC s)) := by
  refine run_of (hX _ rfl) ?_
  rw [e44]
  simp only [condN, ba_size, ba_getD]
  by_cases hs : s.length = 7
  · rw [if_pos (by omega)]
    obtain ⟨a, b, c, d, e, f, g, rfl⟩ := seven hs
    simp only [condD]
    rw [if_pos (by simp)]
    by_cases ha : a = 35
    · subst ha
      refine iteP (by rfl) ?_
      obtain ⟨b0, s0⟩ := c44_step X hX (s := [35, b, c, d, e, f, g]) rfl 0 (by omega) 0 0 0
      by_cases k0 : dg b < 0 ∨ dg c < 0
      · rw [show parseC [35, b, c, d, e, f, g] = none from if_neg (by omega)]
        exact b0 k0
      refine s0 (by show 0 ≤ dg b; omega) (by show 0 ≤ dg c; omega) _ ?_
      obtain ⟨b1, s1⟩ := c44_step X hX (s := [35, b, c, d, e, f, g]) rfl 1 (by omega) (16 * dg b + dg c) 0 0
      by_cases k1 : dg d < 0 ∨ dg e < 0
      · rw [show parseC [35, b, c, d, e, f, g] = none from if_neg (by omega)]
        exact b1 k1
      refine s1 (by show 0 ≤ dg d; omega) (by show 0 ≤ dg e; omega) _ ?_
      obtain ⟨b2, s2⟩ := c44_step X hX (s := [35, b, c, d, e, f, g]) rfl 2 (by omega) (16 * dg b + dg c) (16 * dg d + dg e) 0
      by_cases k2 : dg f < 0 ∨ dg g < 0
      · rw [show parseC [35, b, c, d, e, f, g] = none from if_neg (by omega)]
        exact b2 k2
      refine s2 (by show 0 ≤ dg f; omega) (by show 0 ≤ dg g; omega) _ ?_
      rw [show parseC [35, b, c, d, e, f, g] = some (16 * dg b + dg c, 16 * dg d + dg e, 16 * dg f + dg g) from if_pos ⟨rfl, by omega, by omega, by omega, by omega, by omega, by omega⟩]
      refine L_of ?_
      rw [e44_111010]
      simp only [condD]
      rw [if_neg (by omega)]; rfl
    · refine iteN (fun h => ha ?_) ?_
      · apply UInt8.toNat_inj.1
        have : ((a.toNat : Nat) : Int) = 35 := h
        show a.toNat = 35
        omega
      · rw [show parseC [a, b, c, d, e, f, g] = none from if_neg (fun h => ha h.1)]; rfl
  · rw [if_neg (by omega), parseC_len hs]; rfl
end
end Go.Skm.Pic
