/-
  The program's exact time of a tick is the document's: the search by halving, the sum; and what follows: the exact time, the time; condition: a valid map, a tick in range.
-/
import Derived.Test.YtdhkklplijleiaaGreatDoorB2
namespace Go.Skm.Cue
open Go Go.Skm
theorem wrapU_eq {x : Int} (h1 : 0 ≤ x) (h2 : x ≤ 9223372036854775807) : IntKind.u64.wrap x = x := by
  have : ∀ y : Int, y = x % 2 ^ 64 → (if (false && decide (y ≥ 2 ^ (64 - 1))) = true then y - 2 ^ 64 else y) = x := by
    intro y hy
    rw [if_neg (by simp)]; omega
  exact this _ rfl
theorem mid_eq {i j : Nat} (h : i + j ≤ 4611686018427387904) : IntKind.i64.wrap ((IntKind.u64.wrap (IntKind.i64.wrap ((i : Int) + (j : Int)))).fdiv (2 ^ 1)) = (((i + j) / 2 : Nat) : Int) := by
  rw [wrap_eq (x := (i : Int) + j) (by omega) (by omega), wrapU_eq (by omega) (by omega)]
  have e : ((i : Int) + j).fdiv (2 ^ 1) = (((i + j) / 2 : Nat) : Int) := by
    rw [Int.fdiv_eq_ediv_of_nonneg _ (by decide)]
    show ((i : Int) + j) / 2 = _
    omega
  rw [e, wrap_eq (by omega) (by omega)]
section
variable (X : Ext) (hX : Mine X)
include hX
theorem c156 (k m x : Int) : run tab X 156 [.p (.agg [.int .i64 k, .int .i64 m]), .p (.int .i64 x)] [] = some ([.p (.int .i64 (IntKind.i64.wrap (k - x)))], []) :=
  run_of (hX _ rfl) (by rw [e156])
theorem c155_loop {l : List Tm} (v : Valid l) {x : Int} (h0 : -Top ≤ x) (hx : x ≤ Top) : ∀ (d i j : Nat), j - i ≤ d → i ≤ j → j ≤ l.length → (∀ q, q < i → (l.getD q default).k < x) → (∀ q, j ≤ q → q < l.length → x ≤ (l.getD q default).k) →
    ∃ (k : Nat) (b : Bool), L tab (run tab X) 155 [] [.lp [1, 1, 1, 0, 0]] (S155_11100 (encM l) x l.length i j) = some ([.p (.int .i64 k), .p (.bool b)], []) ∧ k ≤ l.length ∧ (∀ q, q < k → (l.getD q default).k < x) ∧ ∀ q, k ≤ q → q < l.length → x ≤ (l.getD q default).k := by
  have hlen := v.len
  have ht : Top = 4194304 := rfl
  have stop : ∀ i j : Nat, i = j → j ≤ l.length → (∀ q, q < i → (l.getD q default).k < x) → (∀ q, j ≤ q → q < l.length → x ≤ (l.getD q default).k) →
    ∃ (k : Nat) (b : Bool), L tab (run tab X) 155 [] [.lp [1, 1, 1, 0, 0]] (S155_11100 (encM l) x l.length i j) = some ([.p (.int .i64 k), .p (.bool b)], []) ∧ k ≤ l.length ∧ (∀ q, q < k → (l.getD q default).k < x) ∧ ∀ q, k ≤ q → q < l.length → x ≤ (l.getD q default).k := by
    intro i j hij hj hlo hhi
    subst hij
    by_cases hi : i < l.length
    · refine ⟨i, IntKind.i64.wrap ((l.getD i default).k - x) == 0, L_of ?_, hj, hlo, hhi⟩
      rw [e155_11100]
      simp only [condD, condA, c156 X hX, Option.bind_some, List.headD_cons, pv_p, toInt_int, encM_length, encM_k, encM_m, Int.toNat_natCast]
      repeat (first | rw [if_pos (by omega)] | rw [if_neg (by omega)])
    · refine ⟨i, false, L_of ?_, hj, hlo, hhi⟩
      rw [e155_11100]
      simp only [condD, condA, encM_length]
      rw [if_neg (by omega), if_neg (by omega)]
  intro d
  induction d with
  | zero => intro i j hd hij hj hlo hhi; exact stop i j (by omega) hj hlo hhi
  | succ d ih =>
    intro i j hd hij hj hlo hhi
    by_cases he : i = j
    · exact stop i j he hj hlo hhi
    have hm := mid_eq (i := i) (j := j) (by omega)
    have hml : (i + j) / 2 < l.length := by omega
    have hk0 := v.nonneg hml
    have hk1 := v.k _ hml
    have hw : IntKind.i64.wrap ((l.getD ((i + j) / 2) default).k - x) = (l.getD ((i + j) / 2) default).k - x := wrap_eq (by omega) (by omega)
    have hw1 : IntKind.i64.wrap ((((i + j) / 2 : Nat) : Int) + 1) = (((i + j) / 2 + 1 : Nat) : Int) := by rw [wrap_eq (by omega) (by omega)]; omega
    by_cases hc : (l.getD ((i + j) / 2) default).k < x
    · obtain ⟨k, b, g1, g2⟩ := ih ((i + j) / 2 + 1) j (by omega) (by omega) hj (fun q hq => by
        by_cases e : q = (i + j) / 2
        · rw [e]; exact hc
        · have := v.lt (i := q) (j := (i + j) / 2) (by omega) hml; omega) hhi
      refine ⟨k, b, L_of ?_, g2⟩
      rw [e155_11100]
      simp only [hm, condD, condA, c156 X hX, Option.bind_some, List.headD_cons, pv_p, toInt_int, encM_length, encM_k, encM_m, Int.toNat_natCast, hw, hw1]
      repeat (first | rw [if_pos (by omega)] | rw [if_neg (by omega)])
      change (if (l.getD ((i + j) / 2) default).k - x < 0 then _ else _) = _
      first | rw [if_pos (by omega)] | rw [if_neg (by omega)]
      exact g1
    · obtain ⟨k, b, g1, g2⟩ := ih i ((i + j) / 2) (by omega) (by omega) (by omega) hlo (fun q hq hq' => by
        by_cases e : q = (i + j) / 2
        · rw [e]; omega
        · have := v.lt (i := (i + j) / 2) (j := q) (by omega) hq'; omega)
      refine ⟨k, b, L_of ?_, g2⟩
      rw [e155_11100]
      simp only [hm, condD, condA, c156 X hX, Option.bind_some, List.headD_cons, pv_p, toInt_int, encM_length, encM_k, encM_m, Int.toNat_natCast, hw, hw1]
      repeat (first | rw [if_pos (by omega)] | rw [if_neg (by omega)])
      change (if (l.getD ((i + j) / 2) default).k - x < 0 then _ else _) = _
      first | rw [if_pos (by omega)] | rw [if_neg (by omega)]
      exact g1
theorem c155 {l : List Tm} (v : Valid l) {x : Int} (h0 : -Top ≤ x) (hx : x ≤ Top) :
    ∃ (k : Nat) (b : Bool), run tab X 155 [.p (.list true kT (encM l)), .p (.int .i64 x), .p (.fn 156 [])] [] = some ([.p (.int .i64 k), .p (.bool b)], []) ∧ k ≤ l.length ∧ (∀ q, q < k → (l.getD q default).k < x) ∧ ∀ q, k ≤ q → q < l.length → x ≤ (l.getD q default).k := by
  obtain ⟨k, b, g1, g2⟩ := c155_loop X hX v h0 hx l.length 0 l.length (by omega) (by omega) (by omega) (by omega) (by omega)
  refine ⟨k, b, run_of (hX _ rfl) ?_, g2⟩
  rw [e155, encM_length]
  exact g1
theorem c129_loop {l : List Tm} (v : Valid l) {x : Int} (h0 : 0 ≤ x) (hx : x ≤ Top) : ∀ (n i : Nat) (sum : Int), i + n = l.length → 1 ≤ i → 0 ≤ sum → sum ≤ i * 25165824000000 → (i = 1 ∨ (l.getD (i - 1) default).k < x) →
    L tab (run tab X) 129 [] [.lp [1, 1, 0, 1, 0]] (S129_11010 (encM l) x sum (l.getD (i - 1) default).k (encM l) l.length i) = some ([.p (.int .i64 (sum + exF l x (i - 1) (n + 1)))], []) := by
  have hlen := v.len
  have ht : Top = 4194304 := rfl
  obtain ⟨k, b, hk, hkl, hlo, hhi⟩ := c155 X hX v (x := x) (by omega) hx
  have hpos : ∀ i : Nat, 1 ≤ i → i ≤ l.length → (i = 1 ∨ (l.getD (i - 1) default).k < x) → (∀ q, i ≤ q → q < l.length → x ≤ (l.getD q default).k) → max 0 ((k : Int) - 1) = ((i - 1 : Nat) : Int) := by
    intro i h1 h2 h3 h4
    have hki : k ≤ i := by
      rcases Nat.lt_or_ge i k with h | h
      · have := hlo i h; have := h4 i (Nat.le_refl _) (by omega); omega
      · exact h
    rcases h3 with h3 | h3
    · omega
    · have : i - 1 < k := by
        rcases Nat.lt_or_ge (i - 1) k with h | h
        · exact h
        · have := hhi (i - 1) h (by omega); omega
      omega
  have hkx : ∀ i : Nat, 1 ≤ i → i ≤ l.length → (i = 1 ∨ (l.getD (i - 1) default).k < x) → (l.getD (i - 1) default).k ≤ x := by
    intro i h1 h2 h3
    rcases h3 with h3 | h3
    · subst h3; rw [show 1 - 1 = 0 from rfl, v.zero]; exact h0
    · omega
  have hwk : IntKind.i64.wrap ((k : Int) - 1) = (k : Int) - 1 := wrap_eq (by omega) (by omega)
  intro n
  induction n with
  | zero =>
    intro i sum hi h1 hs hs' h3
    have hp := hpos i h1 (by omega) h3 (by omega)
    have hxk := hkx i h1 (by omega) h3
    have hk0 := v.nonneg (i := i - 1) (by omega)
    have hb := seg_bd v hx (i := i - 1) (by omega)
    have hsg : (x - (l.getD (i - 1) default).k) * (l.getD (i - 1) default).m = seg l x (i - 1) := by
      unfold seg
      rw [if_neg (by omega), show max 0 (x - (l.getD (i - 1) default).k) = x - (l.getD (i - 1) default).k by omega]
    refine L_of ?_
    rw [e129_11010]
    simp only [condD, condA, hk, Option.bind_some, List.headD_cons, pv_p, toInt_int, encM_length, goMax_eq, hwk, hp, Int.toNat_natCast, encM_m]
    rw [if_neg (by omega), if_pos (by omega), if_pos (by omega), wrap_eq (x := x - _) (by omega) (by omega), hsg, wrap_eq (x := seg l x (i - 1)) (by omega) (by omega), wrap_eq (by omega) (by omega)]
    simp [exF]
  | succ n ih =>
    intro i sum hi h1 hs hs' h3
    have hlt : i < l.length := by omega
    have hxk := hkx i h1 (by omega) h3
    have hk0 := v.nonneg (i := i - 1) (by omega)
    have hki := v.nonneg hlt
    have hki' := v.k i hlt
    have hb := seg_bd v hx (i := i - 1) (by omega)
    have hw : IntKind.i64.wrap ((i : Int) + 1) = ((i + 1 : Nat) : Int) := by rw [wrap_eq (by omega) (by omega)]; omega
    have hw' : IntKind.i64.wrap ((i : Int) - 1) = ((i - 1 : Nat) : Int) := by rw [wrap_eq (by omega) (by omega)]; omega
    have hi1 : i - 1 + 1 = i := by omega
    have hup := v.lt (i := i - 1) (j := i) (by omega) hlt
    refine L_of ?_
    rw [e129_11010]
    simp only [condD, condA, hk, Option.bind_some, List.headD_cons, pv_p, toInt_int, encM_length, encM_k, encM_m, Int.toNat_natCast, goMax_eq, hwk, hw, hw']
    rw [if_pos (by omega), if_pos (by omega), if_pos (by omega), if_pos (by omega)]
    by_cases hc : (l.getD i default).k ≥ x
    · have hge : ∀ q, i ≤ q → q < l.length → x ≤ (l.getD q default).k := fun q h1 h2 => by
        by_cases e : q = i
        · rw [e]; exact hc
        · have := v.lt (i := i) (j := q) (by omega) h2; omega
      have hp := hpos i h1 (by omega) h3 hge
      have hsg : (x - (l.getD (i - 1) default).k) * (l.getD (i - 1) default).m = seg l x (i - 1) := by
        unfold seg
        rw [if_pos (by omega), hi1, show max 0 (min x (l.getD i default).k - (l.getD (i - 1) default).k) = x - (l.getD (i - 1) default).k by omega]
      rw [if_pos hc, hp]
      simp only [Int.toNat_natCast]
      rw [if_pos (by omega), if_pos (by omega), wrap_eq (x := x - _) (by omega) (by omega), hsg, wrap_eq (x := seg l x (i - 1)) (by omega) (by omega), wrap_eq (by omega) (by omega)]
      have hz := exF_zero v (x := x) (n + 1) i (by omega) hge
      show _ = some ([AV.p (.int .i64 (sum + (seg l x (i - 1) + exF l x (i - 1 + 1) (n + 1))))], [])
      rw [hi1, hz, Int.add_zero]
    · have hsg : ((l.getD i default).k - (l.getD (i - 1) default).k) * (l.getD (i - 1) default).m = seg l x (i - 1) := by
        unfold seg
        rw [if_pos (by omega), hi1, show max 0 (min x (l.getD i default).k - (l.getD (i - 1) default).k) = (l.getD i default).k - (l.getD (i - 1) default).k by omega]
      have ih' := ih (i + 1) (sum + seg l x (i - 1)) (by omega) (by omega) (by omega) (by
        have : ((i + 1 : Nat) : Int) * 25165824000000 = i * 25165824000000 + 25165824000000 := by omega
        omega) (.inr (by rw [Nat.add_sub_cancel]; omega))
      rw [Nat.add_sub_cancel] at ih'
      rw [if_neg hc, if_pos (by omega), if_pos (by omega), wrap_eq (x := (l.getD i default).k - _) (by omega) (by omega), hsg, wrap_eq (x := seg l x (i - 1)) (by omega) (by omega), wrap_eq (x := sum + _) (by omega) (by omega), ih']
      show _ = some ([AV.p (.int .i64 (sum + (seg l x (i - 1) + exF l x (i - 1 + 1) (n + 1))))], [])
      rw [hi1, Int.add_assoc]
theorem c129 {l : List Tm} (v : Valid l) {x : Int} (h0 : 0 ≤ x) (hx : x ≤ Top) : run tab X 129 [.p (.list true kT (encM l)), .p (.int .i64 x)] [] = some ([.p (.int .i64 (exS l x))], []) :=
  run_of (hX _ rfl) (by
    have hp := v.pos
    have := c129_loop X hX v h0 hx (l.length - 1) 1 0 (by omega) (by omega) (by omega) (by omega) (.inl rfl)
    rw [show 1 - 1 = 0 from rfl, v.zero, Int.zero_add, show l.length - 1 + 1 = l.length by omega] at this
    rw [e129, encM_length]
    refine L_of ?_
    rw [e129_11010]
    simp only [condD, condA, encM_length]
    have hw : IntKind.i64.wrap (0 + 1) = ((1 : Nat) : Int) := by decide
    rw [if_pos (by omega), if_pos (by omega), if_pos (by omega), if_neg (by omega), hw]
    exact this)
end
end Go.Skm.Cue
