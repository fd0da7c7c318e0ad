/-
  The text of a picture, as the program writes it (by builders); condition: the library's answers, lengths that fit.
-/
import Derived.Test.YtidoclepnecnbaaGreatDoorP8
import Derived.Test.YtidoclepnecnbaaGreatDoorP6
namespace Go.Skm.Drw
open Go Go.Skm
def cutC (c : UInt8) : List UInt8 → List UInt8 × List UInt8 × Bool
  | [] => ([], [], false)
  | x :: l => bif x == c then ([], l, true) else (x :: (cutC c l).1, (cutC c l).2.1, (cutC c l).2.2)
structure Texts (X : Ext) : Prop where
  itoa : ∀ n : Int, -9223372036854775808 ≤ n → n ≤ 9223372036854775807 → run tab X 38 [.p (.int .i64 n)] [] = some ([.p (.str (ba (Lib.itoa n)))], [])
  split : ∀ l : List UInt8, l.length ≤ 100000000 → run tab X 44 [.p (.str (ba l)), .p (.str ⟨#[32]⟩)] [] = some ([.fresh false [.str] ((splitC 32 l).map fun p => .str (ba p))], [])
  atoi : ∀ l : List UInt8, l.length ≤ 100000000 → run tab X 45 [.p (.str (ba l))] [] = some (atoiR l, [])
  cut : ∀ l : List UInt8, l.length ≤ 100000000 → run tab X 27 [.p (.str (ba l)), .p (.str ⟨#[10]⟩)] [] = some ([.p (.str (ba (cutC 10 l).1)), .p (.str (ba (cutC 10 l).2.1)), .p (.bool (cutC 10 l).2.2)], [])
def bv (l : List UInt8) : List PV := l.map fun x => .int .u8 ((x.toNat : Nat) : Int)
theorem strPVs_ba (l : List UInt8) : strPVs (ba l) = bv l := rfl
theorem bv_append (x y : List UInt8) : bv x ++ bv y = bv (x ++ y) := by simp [bv]
@[simp] theorem bv_length (x : List UInt8) : (bv x).length = x.length := by simp [bv]
theorem bytesOf_bv (l : List UInt8) : bytesOf (bv l) = ba l := by
  unfold bytesOf ba bv
  rw [List.map_map]
  congr 2
  exact (List.map_congr_left fun x _ => toNat8 x).trans (List.map_id _)
theorem bv_all (l : List UInt8) : (bv l).all PV.isByte = true := by
  rw [List.all_eq_true]
  intro x hx
  obtain ⟨u, _, rfl⟩ := List.mem_map.1 hx
  have := u.toNat_lt
  simp only [PV.isByte, Bool.and_eq_true, decide_eq_true_eq]
  omega
def numsT : List Int → List UInt8
  | [] => []
  | n :: l => 32 :: (Lib.itoa n ++ numsT l)
def lineT (w : List UInt8) (ns : List Int) (r e b : Int) : List UInt8 := w ++ (numsT ns ++ 32 :: (colT r e b ++ [10]))
theorem itoa_len10 {n : Int} (h0 : -100000000 ≤ n) (h1 : n ≤ 100000000) : (Lib.itoa n).length ≤ 10 := by
  unfold Lib.itoa
  split
  · have := dec_len_of 8 n.natAbs (by omega)
    simp; omega
  · have := dec_len_of 8 n.toNat (by omega)
    omega
def dotT (d : Dt) : List UInt8 := lineT [100, 111, 116] [d.x, d.y, d.r] d.a d.e d.b
def dotsT : List Dt → List UInt8
  | [] => []
  | d :: l => dotT d ++ dotsT l
def textP (p : Pi) : List UInt8 := lineT [112, 105, 99, 116, 117, 114, 101] [p.w, p.h] p.a p.e p.b ++ dotsT p.d
def textR (p : Pi) : List AV × List Blk := bif validP p then ([.p (.str (ba (textP p))), .p (.int .i64 0)], []) else ([.p (.str ⟨#[]⟩), .p (.int .i64 2)], [])
def Small (n : Int) : Prop := -100000000 ≤ n ∧ n ≤ 100000000
theorem numsT_len : ∀ {ns : List Int}, (∀ n ∈ ns, Small n) → (numsT ns).length ≤ 11 * ns.length
  | [], _ => by simp [numsT]
  | n :: l, h => by
    have h1 := itoa_len10 (h n (by simp)).1 (h n (by simp)).2
    have h2 := numsT_len (ns := l) fun m hm => h m (by simp [hm])
    simp only [numsT, List.length_cons, List.length_append]
    omega
theorem lineT_len {w : List UInt8} {ns : List Int} {r e b : Int} (h : ∀ n ∈ ns, Small n) : (lineT w ns r e b).length ≤ w.length + 11 * ns.length + 9 := by
  have := numsT_len h
  have hc : (colT r e b).length = 7 := rfl
  simp only [lineT, List.length_append, List.length_cons, List.length_nil]
  omega
section
variable (X : Ext) (hX : Mine X) (hT : Texts X)
include hX hT
theorem c20_loop (ns : List Int) (hns : ∀ n ∈ ns, Small n) (hlen : ns.length ≤ 10) {r e b : Int} (h1 : In8 r) (h2 : In8 e) (h3 : In8 b) : ∀ (k i : Nat) (acc : List UInt8), i + k = ns.length → acc.length ≤ 100 + 11 * i →
    L tab (run tab X) 20 [] [.lp [1, 1, 1, 0, 1, 0]] (S20_111010 (encI ns) ns.length i r e b (bv acc)) = some ([.p (.str (ba (acc ++ (numsT (ns.drop i) ++ 32 :: (colT r e b ++ [10])))))], []) := by
  intro k
  induction k with
  | zero =>
    intro i acc hi ha
    have hc : (colT r e b).length = 7 := rfl
    refine L_of ?_
    rw [e20_111010]
    refine condNP (show ¬ (i : Int) < (ns.length : Int) by omega) ?_
    rw [bytesOf_bv]
    refine condP (p := (bv acc).length ≤ 2147483648) (by simp; omega) (condT (bv_all acc) ?_)
    rw [show (⟨#[32]⟩ : ByteArray) = ba [32] from rfl, ba_append]
    refine condP (p := (ba acc).size + (ba [32]).size ≤ 4611686018427387904) (by simp only [ba_size, List.length_cons, List.length_nil]; omega) ?_
    refine bindS (c39 X hX h1 h2 h3) ?_
    simp only [List.headD_cons, pv_p, toStr_str]
    rw [ba_append, show (⟨#[10]⟩ : ByteArray) = ba [10] from rfl, ba_append]
    refine condP (p := (ba (acc ++ [32])).size + (ba (colT r e b)).size ≤ 4611686018427387904) (by simp only [ba_size, List.length_append, List.length_cons, List.length_nil]; omega) ?_
    refine condP (p := (ba (acc ++ [32] ++ colT r e b)).size + (ba [10]).size ≤ 4611686018427387904) (by simp only [ba_size, List.length_append, List.length_cons, List.length_nil]; omega) ?_
    rw [List.drop_eq_nil_of_le (by omega), numsT]
    simp
  | succ k ih =>
    intro i acc hi ha
    have hlt : i < ns.length := by omega
    have hs := hns ns[i] (List.getElem_mem hlt)
    have hl := itoa_len10 hs.1 hs.2
    unfold Small at hs
    have w1 : IntKind.i64.wrap ((i : Int) + 1) = ((i + 1 : Nat) : Int) := by rw [wrap_eq (by omega) (by omega)]; omega
    have hg : (((encI ns).getD i .nil).cell 0).toInt = ns[i] := by
      rw [List.getD_eq_getElem?_getD]; simp [encI, hlt]
    refine L_of ?_
    rw [e20_111010, w1]
    refine condP (show (i : Int) < (ns.length : Int) by omega) ?_
    have hel : (encI ns).length = ns.length := by simp [encI]
    simp only [condA, condD, Int.toNat_natCast, hg, hel]
    rw [if_pos (by omega), if_pos (by omega), if_pos (by simp; omega)]
    refine bindS (hT.itoa ns[i] (by omega) (by omega)) ?_
    simp only [List.headD_cons, pv_p, toStr_str, strPVs_ba]
    have e1 : bv acc ++ ([.int .u8 32] : List PV) = bv (acc ++ [32]) := by rw [← bv_append]; rfl
    rw [e1, bv_append]
    refine iteP (by simp only [bv_length, ba_size, List.length_append, List.length_cons, List.length_nil]; omega) ?_
    have := ih (i + 1) (acc ++ [32] ++ Lib.itoa ns[i]) (by omega) (by simp only [List.length_append, List.length_cons, List.length_nil]; omega)
    rw [List.drop_eq_getElem_cons hlt, numsT]
    simp only [List.append_assoc, List.cons_append, List.nil_append] at this ⊢
    exact this
theorem c20 (w : List UInt8) (hw : w.length ≤ 100) (ns : List Int) (hns : ∀ n ∈ ns, Small n) (hlen : ns.length ≤ 10) {r e b : Int} (h1 : In8 r) (h2 : In8 e) (h3 : In8 b) :
    run tab X 20 [.p (.str (ba w)), .p (colP r e b), .p (.list false [.int .i64] (encI ns))] [] = some ([.p (.str (ba (lineT w ns r e b)))], []) :=
  run_of (hX _ rfl) (by
    have hel : (encI ns).length = ns.length := by simp [encI]
    rw [e20, hel]
    refine condP (p := (ba w).size ≤ 2147483648) (by rw [ba_size]; omega) ?_
    exact c20_loop X hX hT ns hns hlen h1 h2 h3 ns.length 0 w (by omega) (by omega))
theorem c10_loop (l : List Dt) (hl : l.length ≤ 4096) (hn : ∀ v ∈ l, v.near) (hc : ∀ v ∈ l, v.ok) : ∀ (k i : Nat) (acc : List UInt8), i + k = l.length → acc.length ≤ 100 + 100 * i →
    L tab (run tab X) 10 [] [.lp [1, 1, 1, 1, 0, 1, 0]] (S10_1111010 (encL l) l.length i (bv acc)) = some ([.p (.str (ba (acc ++ dotsT (l.drop i)))), .p (.int .i64 0)], []) := by
  intro k
  induction k with
  | zero =>
    intro i acc hi ha
    refine L_of ?_
    rw [e10_1111010]
    refine condNP (show ¬ (i : Int) < (l.length : Int) by omega) ?_
    rw [bytesOf_bv]
    refine condP (p := (bv acc).length ≤ 2147483648) (by simp; omega) (condT (bv_all acc) ?_)
    rw [List.drop_eq_nil_of_le (by omega), dotsT, List.append_nil]
  | succ k ih =>
    intro i acc hi ha
    have hlt : i < l.length := by omega
    have w1 : IntKind.i64.wrap ((i : Int) + 1) = ((i + 1 : Nat) : Int) := by rw [wrap_eq (by omega) (by omega)]; omega
    have hd := hn l[i] (List.getElem_mem hlt)
    have ho := hc l[i] (List.getElem_mem hlt)
    have dx := hd.x
    have dy := hd.y
    have dr := hd.r
    have hs : ∀ n ∈ [l[i].x, l[i].y, l[i].r], Small n := by
      intro n hn
      simp only [List.mem_cons, List.not_mem_nil, or_false] at hn
      unfold Small
      rcases hn with rfl | rfl | rfl <;> omega
    have h36 := c20 X hX hT [100, 111, 116] (by simp) [l[i].x, l[i].y, l[i].r] hs (by simp) ho.a ho.e ho.b
    have hlen := lineT_len (w := [100, 111, 116]) (r := l[i].a) (e := l[i].e) (b := l[i].b) hs
    simp only [List.length_cons, List.length_nil] at hlen
    refine L_of ?_
    rw [e10_1111010]
    simp only [condA, condD, encL_length, encL_x, encL_y, encL_r, encL_a, encL_e, encL_b, Int.toNat_natCast, dt_get hlt, w1]
    rw [if_pos (by omega), if_pos (by omega), if_pos (by omega), List.drop_eq_getElem_cons hlt, dotsT]
    refine bindS h36 ?_
    simp only [List.headD_cons, pv_p, toStr_str, strPVs_ba]
    rw [bv_append]
    refine iteP (by simp only [bv_length, ba_size]; omega) ?_
    have := ih (i + 1) (acc ++ dotT l[i]) (by omega) (by simp only [dotT, List.length_append]; omega)
    rw [List.append_assoc] at this
    exact this
theorem c10 (p : Pi) (hl : p.d.length ≤ maxLen) (hp : In8 p.a ∧ In8 p.e ∧ In8 p.b) (hc : ∀ v ∈ p.d, v.ok) : run tab X 10 [.p (encP p)] [] = some (textR p) :=
  run_of (hX _ rfl) (by
    rw [e10, c18 X hX p hl, encL_length]
    unfold textR
    simp only [Option.bind_some, List.headD_cons, pv_p, toBool_bool, condO]
    cases hv : validP p with
    | false => rfl
    | true =>
      have V := valid_iff.1 hv
      obtain ⟨v1, v2⟩ := V.w
      obtain ⟨v3, v4⟩ := V.h
      have hs : ∀ n ∈ [p.w, p.h], Small n := by
        intro n hn
        simp only [List.mem_cons, List.not_mem_nil, or_false] at hn
        unfold Small
        rcases hn with rfl | rfl <;> omega
      have hlen := lineT_len (w := [112, 105, 99, 116, 117, 114, 101]) (r := p.a) (e := p.e) (b := p.b) hs
      simp only [List.length_cons, List.length_nil] at hlen
      simp only [cond_true]
      refine bindS (c20 X hX hT [112, 105, 99, 116, 117, 114, 101] (by simp) [p.w, p.h] hs (by simp) hp.1 hp.2.1 hp.2.2) ?_
      simp only [List.headD_cons, pv_p, toStr_str, strPVs_ba]
      refine condP (p := (ba (lineT [112, 105, 99, 116, 117, 114, 101] [p.w, p.h] p.a p.e p.b)).size ≤ 2147483648) (by rw [ba_size]; omega) ?_
      exact c10_loop X hX hT p.d V.len V.near hc p.d.length 0 _ (by omega) (by omega))
end
end Go.Skm.Drw
