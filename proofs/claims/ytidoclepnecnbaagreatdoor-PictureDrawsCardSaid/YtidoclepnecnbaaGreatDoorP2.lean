/-
  The text of a colour: both give the same seven bytes; condition: parts of a colour.
-/
import Derived.Test.YtidoclepnecnbaaGreatDoorP1
namespace Go.Skm.Drw
open Go Go.Skm
def hx (n : Int) : UInt8 := (⟨#[48, 49, 50, 51, 52, 53, 54, 55, 56, 57, 97, 98, 99, 100, 101, 102]⟩ : ByteArray).data.getD n.toNat 0
def colT (r e b : Int) : List UInt8 := [35, hx (r / 16), hx (r % 16), hx (e / 16), hx (e % 16), hx (b / 16), hx (b % 16)]
theorem hex_parts {c : Int} (h : In8 c) : IntKind.u8.wrap (c.tdiv 16) = c / 16 ∧ IntKind.i64.wrap (c.tdiv 16) = c / 16 ∧ c.tmod 16 = c % 16 ∧ (0 ≤ c / 16 ∧ c / 16 < 16) ∧ (0 ≤ c % 16 ∧ c % 16 < 16) := by
  unfold In8 at h
  rw [Int.tdiv_eq_ediv_of_nonneg h.1, Int.tmod_eq_emod_of_nonneg h.1]
  refine ⟨wrap8_eq ?_, wrap_eq ?_ ?_, rfl, ?_, ?_⟩
  · unfold In8; omega
  all_goals omega
theorem toNat8 (x : UInt8) : UInt8.ofNat ((x.toNat : Nat) : Int).toNat = x := by
  rw [Int.toNat_natCast]; exact UInt8.ofNat_toNat
section
variable (X : Ext) (hX : Mine X)
theorem c39_step {r e b : Int} (i : Nat) (hi : i < 3) (h : In8 ([r, e, b].getD i 0)) (acc : List UInt8) (ha : acc.length = 1 + 2 * i) {x : List AV × List Blk} (hn :
    L tab (run tab X) 39 [] [.lp [1, 1, 0, 1, 0]] (S39_11010 0 (1 + 2 * (i + 1)) 0 3 3 (i + 1 : Nat) ((acc ++ [hx ([r, e, b].getD i 0 / 16), hx ([r, e, b].getD i 0 % 16)]).map fun x => .int .u8 ((x.toNat : Nat) : Int)) [.int .u8 r, .int .u8 e, .int .u8 b]) = some x) :
    L tab (run tab X) 39 [] [.lp [1, 1, 0, 1, 0]] (S39_11010 0 (1 + 2 * i) 0 3 3 i (acc.map fun x => .int .u8 ((x.toNat : Nat) : Int)) [.int .u8 r, .int .u8 e, .int .u8 b]) = some x := by
  have w : IntKind.i64.wrap ((i : Int) + 1) = ((i + 1 : Nat) : Int) := by rw [wrap_eq (by omega) (by omega)]; omega
  have hc : ((([.int .u8 r, .int .u8 e, .int .u8 b] : List PV).getD (0 + (i : Int).toNat) .nil).cell 0).toInt = [r, e, b].getD i 0 := by
    match i, hi with
    | 0, _ => rfl
    | 1, _ => rfl
    | 2, _ => rfl
  obtain ⟨p1, p2, p3, p4, p5⟩ := hex_parts h
  refine L_of ?_
  rw [e39_11010]
  simp only [condD, condA, hc, p1, p3, w]
  have sz : ((⟨#[48, 49, 50, 51, 52, 53, 54, 55, 56, 57, 97, 98, 99, 100, 101, 102]⟩ : ByteArray).size : Int) = 16 := rfl
  rw [sz, if_pos (by omega), if_pos (by omega), if_pos (by omega), if_pos (by omega), if_pos (by omega), if_pos (by omega), if_pos (by omega), if_pos (by omega)]
  rw [List.drop_zero, List.take_of_length_le (by simp; omega)]
  rw [List.map_append] at hn
  exact hn
theorem c39_end {r e b : Int} (acc : List UInt8) (ha : acc.length = 7) :
    L tab (run tab X) 39 [] [.lp [1, 1, 0, 1, 0]] (S39_11010 0 (1 + 2 * 3) 0 3 3 (3 : Nat) (acc.map fun x => .int .u8 ((x.toNat : Nat) : Int)) [.int .u8 r, .int .u8 e, .int .u8 b]) = some ([.p (.str (ba acc))], []) := by
  refine L_of ?_
  rw [e39_11010]
  simp only [condD]
  rw [if_neg (by omega), List.drop_zero, List.take_of_length_le (by simp; omega)]
  have : bytesOf (acc.map fun x => PV.int .u8 ((x.toNat : Nat) : Int)) = ba acc := by
    unfold bytesOf ba
    rw [List.map_map]
    congr 2
    exact (List.map_congr_left fun x _ => toNat8 x).trans (List.map_id _)
  rw [this]
include hX
theorem c39 {r e b : Int} (h1 : In8 r) (h2 : In8 e) (h3 : In8 b) : run tab X 39 [.p (colP r e b)] [] = some ([.p (.str (ba (colT r e b)))], []) :=
  run_of (hX _ rfl) (by
    rw [e39]
    exact c39_step X (r := r) (e := e) (b := b) 0 (by omega) h1 [35] rfl (c39_step X (r := r) (e := e) (b := b) 1 (by omega) h2 [35, hx (r / 16), hx (r % 16)] rfl (c39_step X (r := r) (e := e) (b := b) 2 (by omega) h3 [35, hx (r / 16), hx (r % 16), hx (e / 16), hx (e % 16)] rfl (c39_end X (colT r e b) rfl))))
end
end Go.Skm.Drw
