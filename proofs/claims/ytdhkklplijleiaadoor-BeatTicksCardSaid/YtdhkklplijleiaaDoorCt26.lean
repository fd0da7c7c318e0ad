/-
  The law of the stage: all its parts; condition: the library's answers.
-/
import Derived.Test.YtdhkklplijleiaaDoorCt25
namespace Go.Skm.Beat
open Go Go.Skm

theorem app_take (b c : List PV) : ((b.drop 0).take b.length) ++ c = b ++ c := by rw [List.drop_zero, List.take_length]
theorem snoc_take (b : List PV) (x : PV) : ((b ++ [x]).drop 0).take (b.length + 1) = b ++ [x] := by
  rw [List.drop_zero, List.take_of_length_le (by simp)]
section
variable (X : Ext) (hX : Mine X)
include hX

theorem c10_loop (hk : Known X) {l : List Tm} (v : Valid l) (hl : l.length ≤ 60) {tick cut : Int} (ht : 0 ≤ tick ∧ tick ≤ 4194304) (hc : 1 ≤ cut ∧ cut ≤ 4194304) {p : Nat} (p0 : 1 ≤ p) (p1 : p ≤ l.length)
    (p2 : ∀ j, j < p → (l.getD j default).k < cut) (p3 : p < l.length → cut ≤ (l.getD p default).k) : ∀ (n i : Nat), i + n = l.length → (p < i → cut < (l.getD p default).k) →
    L tab (run tab X) 10 [] [.lp [1, 1, 1, 1, 1, 1, 1, 1, 1, 1, 1, 1, 1, 1, 1, 1, 0, 1, 0]] (S10_1111111111111111010 (encM l) tick cut (exS l tick) 0 (encM (cutW l p cut i)).length i (encM (cutW l p cut i))) = some ([.p (.bool true)], []) := by
  unfold Known at hk
  have hpos := v.pos
  have fin : ∀ m : List Tm, m = cutL l p cut → (p < l.length → cut < (l.getD p default).k) → run tab X 14 [.p (.list true [.int .i64, .int .i64] (encM m)), .p (.int .i64 tick)] [] = some (pairR (exS l tick, 0)) := by
    intro m hm hp
    have vc := cutL_valid v hl hc.2 p0 p1 (p2 (p - 1) (by omega)) hp
    have h := c14 X hX m (by rw [hm, cutL_length p1]; have hm : (maxLen : Int) = 9223372036854775807 := by decide
                             omega) tick
    have hT : Top = 4194304 := rfl
    rw [exactR, hm, if_pos (validB_of vc), if_pos (by omega), exS_cut p0 p1 (p2 (p - 1) (by omega)) hp, ← hm] at h
    exact h
  intro n
  induction n with
  | zero =>
    intro i hi hpi
    have ei : i = l.length := by omega
    subst ei
    have w : IntKind.i64.wrap ((l.length : Int) - 1) = ((l.length - 1 : Nat) : Int) := by rw [wrap_eq (by omega) (by omega)]; omega
    have hb := cutW_length (cut := cut) p1 (Nat.le_refl l.length)
    refine L_of ?_
    rw [e10_1111111111111111010]
    simp only [condD, condA, encM_length, w, Int.toNat_natCast, encM_k, encM_m]
    rw [if_neg (by omega), if_pos (by omega), if_pos (by omega)]
    by_cases hp : p = l.length
    · rw [if_pos (p2 (l.length - 1) (by omega)), if_pos (by omega), if_pos (by omega), if_pos (by omega)]
      have e1 := app_take (encM (cutW l p cut l.length)) [.agg [.int .i64 cut, .int .i64 (l.getD (l.length - 1) default).m]]
      have e2 := snoc_take (encM (cutW l p cut l.length)) (.agg [.int .i64 cut, .int .i64 (l.getD (l.length - 1) default).m])
      rw [encM_length] at e1 e2
      have e3 : encM (cutW l p cut l.length) ++ [.agg [.int .i64 cut, .int .i64 (l.getD (l.length - 1) default).m]] = encM (cutL l p cut) := by
        rw [hp, ← cutW_last, ← encM_append]; rfl
      rw [e1, e2, e3, fin _ rfl (fun h => by omega), hk]
      simp only [pairR, Option.bind_some, List.headD_cons, List.tail_cons, pv_p, toInt_int, beq_self_eq_true, cond_true]
      rfl
    · have hlast : cut < (l.getD (l.length - 1) default).k := by
        have h1 := hpi (by omega)
        by_cases e : p = l.length - 1
        · rwa [← e]
        · have := v.lt (i := p) (j := l.length - 1) (by omega) (by omega); omega
      rw [if_neg (by omega)]
      have e1 : ((encM (cutW l p cut l.length)).drop 0).take (cutW l p cut l.length).length = encM (cutL l p cut) := by
        rw [List.drop_zero, ← encM_length, List.take_length, cutW_end (by omega)]
      rw [e1, fin _ rfl (fun _ => hpi (by omega)), hk]
      simp only [pairR, Option.bind_some, List.headD_cons, List.tail_cons, pv_p, toInt_int, beq_self_eq_true, cond_true]
      rfl
  | succ n ih =>
    intro i hi hpi
    have hlt : i < l.length := by omega
    have wn : IntKind.i64.wrap ((i : Int) + 1) = ((i + 1 : Nat) : Int) := by rw [wrap_eq (by omega) (by omega)]; omega
    have hb := cutW_length (cut := cut) p1 (show i ≤ l.length by omega)
    have e1 := fun c => app_take (encM (cutW l p cut i)) c
    have e2 := fun x => snoc_take (encM (cutW l p cut i)) x
    simp only [encM_length] at e1 e2
    have one : ∀ m : List Tm, cutW l p cut i ++ [l.getD i default] = m → encM (cutW l p cut i) ++ [.agg [.int .i64 (l.getD i default).k, .int .i64 (l.getD i default).m]] = encM m := by
      intro m hm
      rw [← hm, ← encM_append]; rfl
    refine L_of ?_
    rw [e10_1111111111111111010]
    simp only [condD, condA, condE, encM_length, Int.toNat_natCast, encM_k, encM_m, wn, hk, Option.bind_some, List.headD_cons, pv_p, toBool_bool, e1, e2]
    rw [if_pos (by omega), if_pos (by omega), if_pos (by omega)]
    rcases Nat.lt_trichotomy i p with h | h | h
    · have hk1 := p2 i h
      rw [if_neg (by omega), if_pos (by omega), if_pos (by omega), if_neg (by omega), if_pos (by omega), if_pos (by omega), if_pos (by omega)]
      have e := cutW_low (cut := cut) p1 h
      have ih' := ih (i + 1) (by omega) (by omega)
      rw [one _ e]
      rw [← e] at ih' ⊢
      simpa using ih'
    · subst h
      by_cases he : (l.getD i default).k = cut
      · rw [if_pos he]
      · have hgt : cut < (l.getD i default).k := by have := p3 hlt; omega
        have w : IntKind.i64.wrap ((i : Int) - 1) = ((i - 1 : Nat) : Int) := by rw [wrap_eq (by omega) (by omega)]; omega
        simp only [w, Int.toNat_natCast]
        rw [if_neg he, if_pos (by omega), if_pos (by omega), if_pos (by omega), if_neg (by omega), if_pos (by omega), if_pos (by omega), if_pos (p2 (i - 1) (by omega)), if_pos (by omega), if_pos (by omega), if_pos (by omega), if_pos (by omega), if_pos (by omega), if_pos (by omega)]
        have e := cutW_at (cut := cut) hlt
        have ih' := ih (i + 1) (by omega) (fun _ => hgt)
        have e3 : encM (cutW l i cut i) ++ [.agg [.int .i64 cut, .int .i64 (l.getD (i - 1) default).m]] ++ [.agg [.int .i64 (l.getD i default).k, .int .i64 (l.getD i default).m]] = encM (cutW l i cut (i + 1)) := by
          rw [← e, ← encM_append, ← encM_append]; rfl
        rw [e3]
        rw [← e] at ih' ⊢
        simpa using ih'
    · have hgt := hpi h
      have hi1 : cut < (l.getD i default).k := by have := v.lt h hlt; omega
      have hi2 : cut < (l.getD (i - 1) default).k := by
        by_cases e : p = i - 1
        · rwa [← e]
        · have := v.lt (i := p) (j := i - 1) (by omega) (by omega); omega
      have w : IntKind.i64.wrap ((i : Int) - 1) = ((i - 1 : Nat) : Int) := by rw [wrap_eq (by omega) (by omega)]; omega
      simp only [w, Int.toNat_natCast]
      rw [if_neg (by omega), if_pos (by omega), if_pos (by omega), if_pos (by omega), if_neg (by omega), if_pos (by omega), if_pos (by omega), if_neg (by omega), if_pos (by omega), if_pos (by omega), if_pos (by omega)]
      have e := cutW_high (cut := cut) p1 h hlt
      have ih' := ih (i + 1) (by omega) (fun _ => hgt)
      rw [one _ e]
      rw [← e] at ih' ⊢
      simpa using ih'
theorem c10 (hT : Texts X) (hk : Known X) (l : List Tm) (tick more step beats cut : Int) : run tab X 10 [.p (.list true kT (encM l)), .p (.int .i64 tick), .p (.int .i64 more), .p (.int .i64 step), .p (.int .i64 beats), .p (.int .i64 cut)] [] = some ([.p (.bool true)], []) :=
  run_of (hX _ (by decide) (by decide) (by decide)) (by
    have hk' := hk
    unfold Known at hk'
    have hm : (maxLen : Int) = 9223372036854775807 := by decide
    have hTop : Top = 4194304 := rfl
    have h13 := c13 X hX l
    rw [kT] at h13
    rw [kT, e10, encM_length, h13]
    simp only [condD, condO, hk', Option.bind_some, List.headD_cons, pv_p, toBool_bool]
    by_cases h1 : (l.length : Int) > 60
    · rw [if_pos h1]
    rw [if_neg h1]
    cases hv : validB l with
    | false => rfl
    | true =>
      have v := valid_of hv
      rw [cond_true]
      by_cases h2 : tick < 0
      · rw [if_pos h2]
      rw [if_neg h2]
      by_cases h3 : tick > 4194304
      · rw [if_pos h3]
      rw [if_neg h3, wrap_eq (x := 4194304 - tick) (by omega) (by omega)]
      by_cases h4 : more < 0
      · rw [if_pos h4]
      rw [if_neg h4]
      by_cases h5 : more > 4194304 - tick
      · rw [if_pos h5]
      rw [if_neg h5]
      by_cases h6 : beats < 1
      · rw [if_pos h6]
      rw [if_neg h6]
      by_cases h7 : beats > 32
      · rw [if_pos h7]
      rw [if_neg h7]
      by_cases h8 : step < 1
      · rw [if_pos h8]
      rw [if_neg h8]
      by_cases h9 : step > 4194304
      · rw [if_pos h9]
      rw [if_neg h9, wrap_eq (x := tick + more) (by omega) (by omega)]
      have hlen : l.length ≤ maxLen := by omega
      have x14 : ∀ t : Int, 0 ≤ t → t ≤ 4194304 → run tab X 14 [.p (.list true [.int .i64, .int .i64] (encM l)), .p (.int .i64 t)] [] = some (pairR (exS l t, 0)) := by
        intro t t0 t1
        have h := c14 X hX l hlen t
        rw [exactR, if_pos hv, if_pos (by omega)] at h
        exact h
      have x15 : ∀ t : Int, 0 ≤ t → t ≤ 4194304 → run tab X 15 [.p (.list true [.int .i64, .int .i64] (encM l)), .p (.int .i64 t)] [] = some (pairR (if tmS l t > 3600000 then (0, 3) else (tmS l t, 0))) := by
        intro t t0 t1
        have h := c15 X hX l hlen t
        rw [timeR, if_pos hv, if_pos (by omega)] at h
        exact h
      have hok : okB tick beats = 0 := okB_iff.2 ⟨by omega, by omega⟩
      obtain ⟨pf1, pf2⟩ := place_from hok
      obtain ⟨p, q1, q2⟩ := c30 X hX hT (txtOf tick beats) (by
        obtain ⟨b1, b2, b3⟩ := place_bd hok
        have s : ∀ n : Int, 0 ≤ n → n ≤ 9999 → (Lib.itoa n).length ≤ 4 := by
          intro n n0 n1
          rw [itoa_nat n0, Lib.decDigits_length]
          have : ∀ u : Nat, u ≤ 9999 → Lib.nDigits u ≤ 4 := by
            intro u hu
            by_cases g1 : u < 10
            · rw [Lib.nDigits_small g1]; omega
            · rw [Lib.nDigits_big g1]
              by_cases g2 : u / 10 < 10
              · rw [Lib.nDigits_small g2]; omega
              · rw [Lib.nDigits_big g2]
                by_cases g3 : u / 10 / 10 < 10
                · rw [Lib.nDigits_small g3]; omega
                · rw [Lib.nDigits_big g3, Lib.nDigits_small (by omega)]; omega
          exact this _ (by omega)
        have a1 : pA tick beats ≤ 9999 := by
          have := Int.ediv_le_self beats (show 0 ≤ tick / 480 by omega)
          unfold pA; omega
        have := s (pA tick beats) (by omega) a1
        have := s (pB tick beats) (by omega) (by omega)
        have := s (pC tick) (by omega) (by omega)
        unfold txtOf txt
        simp only [List.length_append, List.length_cons]; omega) beats
      have ep : p = (tick, 0) := by
        refine q1.unique (.inr ⟨by omega, .inl ⟨tick, hok, rfl, rfl⟩⟩)
      rw [ep] at q2
      have x24 : run tab X 24 [.p (.int .i64 tick), .p (.int .i64 beats)] [] = some (barV (pA tick beats) (pB tick beats) (pC tick) 0) := by rw [c24 X hX, barR_ok hok]
      have x28 : run tab X 28 [.p (.int .i64 (pA tick beats)), .p (.int .i64 (pB tick beats)), .p (.int .i64 (pC tick)), .p (.int .i64 beats)] [] = some (pairR (tick, 0)) := by rw [c28 X hX, fromR_ok pf1, pf2]
      have x26 : run tab X 26 [.p (.int .i64 tick), .p (.int .i64 beats)] [] = some ([.p (.str (ba (txtOf tick beats))), .p (.int .i64 0)], []) := by rw [c26 X hX hT, textR, if_pos hok]
      have mono := exS_mono v (x := tick) (y := tick + more) (by omega)
      -- the cut
      have hcut : (if cut < 1 then some ([AV.p (.bool true)], []) else if cut > 4194304 then some ([AV.p (.bool true)], []) else
          L tab (run tab X) 10 [] [.lp [1, 1, 1, 1, 1, 1, 1, 1, 1, 1, 1, 1, 1, 1, 1, 1, 0, 1, 0]] (S10_1111111111111111010 (encM l) tick cut (exS l tick) 0 0 0 [])) = some ([.p (.bool true)], []) := by
        by_cases g1 : cut < 1
        · rw [if_pos g1]
        rw [if_neg g1]
        by_cases g2 : cut > 4194304
        · rw [if_pos g2]
        rw [if_neg g2]
        obtain ⟨p, p0, p1, p2, p3⟩ := cut_place v (show 1 ≤ cut by omega)
        have := c10_loop X hX hk v (by omega) (tick := tick) (cut := cut) (by omega) (by omega) p0 p1 p2 p3 l.length 0 (by omega) (by omega)
        have e : cutW l p cut 0 = [] := by unfold cutW; rw [if_pos (by omega)]; rfl
        rw [e] at this
        exact this
      -- the nearest
      obtain ⟨s, rfl⟩ := Int.eq_ofNat_of_zero_le (show 0 ≤ step by omega)
      have hs : 1 ≤ s := by omega
      have e0 : ¬ ((s : Int) = 0) := by omega
      obtain ⟨t, rfl⟩ := Int.eq_ofNat_of_zero_le (show 0 ≤ tick by omega)
      have hq : t / s ≤ t := Nat.div_le_self t s
      have hq0 : (0 : Int) ≤ ((t / s : Nat) : Int) := Int.natCast_nonneg _
      have hle : t / s * s ≤ t := Nat.div_mul_le_self t s
      have w1 : IntKind.i64.wrap ((t : Int).tdiv (s : Int)) = ((t / s : Nat) : Int) := by
        have : (t : Int).tdiv (s : Int) = ((t / s : Nat) : Int) := by rw [Int.tdiv_eq_ediv_of_nonneg (by omega)]; rfl
        rw [this, wrap_eq (by omega) (by omega)]
      have w2 : IntKind.i64.wrap (((t / s : Nat) : Int) * (s : Int)) = ((t / s * s : Nat) : Int) := by
        rw [← Int.natCast_mul, wrap_eq (by omega) (by omega)]
      obtain ⟨n, n1, n2⟩ := c17 X hX l hlen (tmS l ((t / s * s : Nat) : Int)) s
      have tb := tmS_bd v (x := ((t / s * s : Nat) : Int)) (by omega)
      have near : tmS l ((t / s * s : Nat) : Int) ≤ 3600000 → n.2 = 0 ∧ ∃ k : Nat, n.1 = ((k * s : Nat) : Int) ∧ k ≤ t / s ∧ tmS l ((k * s : Nat) : Int) = tmS l ((t / s * s : Nat) : Int) := by
        intro hle2
        unfold NearP at n1
        rw [if_pos ⟨hv, by omega, by omega⟩, if_pos ⟨tb.1, hle2⟩] at n1
        obtain ⟨z, k, k1, k2⟩ := n1
        rw [Int.toNat_natCast] at k1 k2
        refine ⟨z, k, k2, ?_, ?_⟩
        · by_cases g : k ≤ t / s
          · exact g
          · have h1 := k1.first (t / s) (by omega)
            have h2 : dst (gT l s (t / s)) (tmS l ((t / s * s : Nat) : Int)) = 0 := by
              unfold dst gT; rw [if_neg (by omega)]; omega
            have h3 : 0 ≤ dst (gT l s k) (tmS l ((t / s * s : Nat) : Int)) := by unfold dst; split <;> omega
            omega
        · have h1 := k1.best (t / s) (Nat.div_le_div_right (by omega))
          have h2 : dst (gT l s (t / s)) (tmS l ((t / s * s : Nat) : Int)) = 0 := by
            unfold dst gT; rw [if_neg (by omega)]; omega
          rw [h2] at h1
          have : gT l s k = tmS l ((k * s : Nat) : Int) := rfl
          rw [← this]
          revert h1; unfold dst; split <;> omega
      obtain ⟨m, m1, m2⟩ := c16 X hX l hlen (tmS l (t : Int))
      have tb2 := tmS_bd v (x := (t : Int)) (by omega)
      have tk : tmS l (t : Int) ≤ 3600000 → m.2 = 0 ∧ (0 ≤ m.1 ∧ m.1 ≤ 4194304) ∧ (t : Int) ≤ m.1 ∧ tmS l m.1 = tmS l (t : Int) := by
        intro hle2
        unfold TickP at m1
        rw [if_pos hv, if_pos ⟨tb2.1, hle2⟩] at m1
        obtain ⟨z, k⟩ := m1
        have a : (t : Int) ≤ m.1 := by
          rcases k.gt with g | g
          · omega
          · by_cases e : (t : Int) ≤ m.1
            · exact e
            · have := tmS_mono v (x := m.1 + 1) (y := (t : Int)) (by omega); omega
        refine ⟨z, ⟨k.lo, k.hi⟩, a, ?_⟩
        have := tmS_mono v a
        have := k.le
        omega
      rw [kT] at n2 m2
      rw [x14 t (by omega) (by omega), x14 (t + more) (by omega) (by omega), x24]
      simp only [pairR, barV, Option.bind_some, List.headD_cons, List.tail_cons, pv_p, toInt_int, condN, if_true, x28, x26, toStr_str, q2]
      rw [if_neg (by omega), x15 t (by omega) (by omega), w1, w2, x15 ((t / s * s : Nat) : Int) (by omega) (by omega)]
      simp only [e0, if_false]
      rw [if_neg (by omega)]
      by_cases ht : tmS l (t : Int) > 3600000
      · rw [if_pos ht]
        refine bindS rfl (condF rfl ?_)
        by_cases hn : tmS l ((t / s * s : Nat) : Int) > 3600000
        · rw [if_pos hn]
          exact bindS rfl (condF rfl hcut)
        · rw [if_neg hn]
          obtain ⟨z, k, k2, k3, k4⟩ := near (by omega)
          have en : n = (((k * s : Nat) : Int), 0) := Prod.ext k2 z
          rw [en] at n2
          have hks : k * s ≤ t / s * s := Nat.mul_le_mul_right s k3
          have y := x15 ((k * s : Nat) : Int) (by omega) (by omega)
          rw [k4, if_neg hn] at y
          refine bindS rfl (condT rfl (bindS n2 (bindS y ?_)))
          refine iteP rfl (iteP rfl (iteP rfl (iteP ?_ (iteN ?_ hcut))))
          · change ((k * s : Nat) : Int).tmod (s : Int) = 0
            rw [Int.natCast_mul, Int.mul_tmod_left]
          · change ¬ ((k * s : Nat) : Int) > ((t / s * s : Nat) : Int)
            omega
      · rw [if_neg ht]
        obtain ⟨z, mb, a, e⟩ := tk (by omega)
        have em : m = (m.1, 0) := Prod.ext rfl z
        rw [em] at m2
        have y := x15 m.1 mb.1 mb.2
        rw [e, if_neg ht] at y
        refine bindS rfl (condT rfl (bindS m2 (bindS y ?_)))
        refine iteP rfl (iteP rfl (iteN (show ¬ m.1 < (t : Int) by omega) (iteP rfl ?_)))
        by_cases hn : tmS l ((t / s * s : Nat) : Int) > 3600000
        · rw [if_pos hn]
          exact bindS rfl (condF rfl hcut)
        · rw [if_neg hn]
          obtain ⟨z, k, k2, k3, k4⟩ := near (by omega)
          have en : n = (((k * s : Nat) : Int), 0) := Prod.ext k2 z
          rw [en] at n2
          have hks : k * s ≤ t / s * s := Nat.mul_le_mul_right s k3
          have y := x15 ((k * s : Nat) : Int) (by omega) (by omega)
          rw [k4, if_neg hn] at y
          refine bindS rfl (condT rfl (bindS n2 (bindS y ?_)))
          refine iteP rfl (iteP rfl (iteP rfl (iteP ?_ (iteN ?_ hcut))))
          · change ((k * s : Nat) : Int).tmod (s : Int) = 0
            rw [Int.natCast_mul, Int.mul_tmod_left]
          · change ¬ ((k * s : Nat) : Int) > ((t / s * s : Nat) : Int)
            omega)
end
end Go.Skm.Beat
