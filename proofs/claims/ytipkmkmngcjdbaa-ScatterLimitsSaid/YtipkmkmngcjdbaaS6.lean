/-
  The document's picks are the program's; the three laws of lists, from the examples; condition: lists that fit, and a library that copies lists.
-/
import Derived.Test.YtipkmkmngcjdbaaS5
namespace Go.Skm.Sct
open Go Go.Skm
theorem has_iff {l : List V3} (hu : up l = true) {ks : List Nat} (hk : ∀ k ∈ ks,k < l.length) {i : Nat} (hi : i < l.length) : at_ l i ∈ ks.map (at_ l) ↔ i ∈ ks := by
  rw [List.mem_map]
  constructor
  · rintro ⟨k,h1,h2⟩
    by_cases e : k = i
    · exact e ▸ h1
    · exact absurd h2 (up_ne hu e (hk k h1) hi)
  · intro h; exact ⟨i,h,rfl⟩
theorem keyP_far {l : List V3} {ks : List Nat} {i : Nat} (hla : ∀ v ∈ l,pnt v = true) (hk : ∀ k ∈ ks,k < l.length) (hi : i < l.length) (h : i ∉ ks) (h0 : ks ≠ []) : keyP l ks i = nr (at_ l i) (ks.map (at_ l)) := by
  unfold keyP
  rw [if_neg h,nr_far (hla _ (at_mem hi)) ?_ (by simpa using h0)]
  intro v hv
  obtain ⟨k,h1,rfl⟩ := List.mem_map.1 hv
  exact hla _ (at_mem (hk k h1))
theorem pickR_len (l : List V3) (many : Int) : (pickR l many).1.length ≤ l.length := by
  unfold pickR
  repeat' split
  all_goals simp
  omega
section
variable (X : Ext) (hX : Mine X)
include hX
theorem l11i (l : List V3) (hl : l.length ≤ 4096) (hla : ∀ v ∈ l,pnt v = true) (hu : up l = true) (many : Int) (ks : List Nat) (hks : ∀ k ∈ ks,k < l.length) (hn : ks.length ≤ 4096) (hex : ∃ j,j < l.length ∧ j ∉ ks) (r : List AV × List Blk) : ∀ m i (pb : Nat) (best : Int),i + m = l.length →
    (best = -1 ∧ pb = 0 ∧ ∀ j,j < i → j ∈ ks) ∨ (best = (pb : Int) ∧ pb < l.length ∧ pb ∉ ks) →
    L tab (run tab X) 11 [] [.lp [1,1,1,1,0,0]] (S11_111100 (encL l) many 0 (ks.length + 1) (encL ((ks ++ [amax (keyP l ks) m i pb]).map (at_ l)))) = some r →
    L tab (run tab X) 11 [] [.lp [1,1,1,1,0,0],.lp [1,0,1,0,1,0]] (S11_111100_101010 (encL l) many 0 ks.length best (i : Int) (encL (ks.map (at_ l)))) = some r := by
  intro m
  induction m with
  | zero =>
    intro i pb best hi hb h
    rcases hb with ⟨_,_,hall⟩ | ⟨rfl,hpb,hpk⟩
    · obtain ⟨j,hj,hjk⟩ := hex
      exact absurd (hall j (by omega)) hjk
    · refine L_of ?_
      rw [e11_111100_101010]
      refine condNP (by rw [encL_length]; omega) (condT (by rw [encL_length]; exact gd hpb) (condP (p := ks.length + 1 ≤ 2147483648) (by omega) ?_))
      rw [List.drop_zero,List.take_of_length_le (show (encL (ks.map (at_ l))).length ≤ ks.length by simp)]
      simp only [tn,encL_x,encL_y,encL_z]
      have eo : encL (ks.map (at_ l)) ++ [PV.agg [.int .i64 (l.getD pb default).x,.int .i64 (l.getD pb default).y,.int .i64 (l.getD pb default).z]] = encL ((ks ++ [amax (keyP l ks) 0 i pb]).map (at_ l)) := by
        rw [List.map_append,← encL_append]; rfl
      rw [eo]
      exact h
  | succ m ih =>
    intro i pb best hi hb h
    have hlt : i < l.length := by omega
    have hlen : (ks.map (at_ l)).length ≤ 2147483648 := by rw [List.length_map]; omega
    have c29' := c29 X hX (ks.map (at_ l)) (l.getD i default) hlen
    refine L_of ?_
    rw [e11_111100_101010]
    refine condP (by rw [encL_length]; omega) (condT (by rw [encL_length]; exact gd hlt) ?_)
    rw [List.drop_zero,List.take_of_length_le (show (encL (ks.map (at_ l))).length ≤ ks.length by simp)]
    simp only [tn,encL_x,encL_y,encL_z,c29',Option.bind_some,List.headD_cons,pv_p,toBool_bool,wr1 (show i < 1099511627776 by omega)]
    have hdec : decide (l.getD i default ∈ ks.map (at_ l)) = decide (i ∈ ks) := decide_eq_decide.2 (has_iff hu hks hlt)
    rw [hdec]
    have ea : amax (keyP l ks) (m + 1) i pb = amax (keyP l ks) m (i + 1) (if keyP l ks i > keyP l ks pb then i else pb) := rfl
    rw [ea] at h
    by_cases hik : i ∈ ks
    · refine condP hik ?_
      have e1 : keyP l ks i = -1 := by unfold keyP; rw [if_pos hik]
      have e2 := keyP_ge l ks pb
      rw [if_neg (by omega)] at h
      refine ih (i + 1) pb best (by omega) ?_ h
      rcases hb with ⟨h1,h2,h3⟩ | hb
      · refine .inl ⟨h1,h2,fun j hj => ?_⟩
        by_cases e : j = i
        · exact e ▸ hik
        · exact h3 j (by omega)
      · exact .inr hb
    · refine condNP hik ?_
      rcases hb with ⟨rfl,rfl,h3⟩ | ⟨rfl,hpb,hpk⟩
      · refine condP (by omega) ?_
        refine ih (i + 1) i _ (by omega) (.inr ⟨rfl,hlt,hik⟩) ?_
        have e3 : (if keyP l ks i > keyP l ks 0 then i else 0) = i := by
          by_cases hi0 : i = 0
          · subst hi0; simp
          · have e1 : keyP l ks 0 = -1 := by unfold keyP; rw [if_pos (h3 0 (by omega))]
            have e2 : 0 ≤ keyP l ks i := by
              unfold keyP; rw [if_neg hik]; exact mn_ge (by decide) (by decide) _
            rw [if_pos (by omega)]
        rw [e3] at h
        exact h
      · refine condNP (by omega) ?_
        by_cases hk0 : ks = []
        · subst hk0
          refine condNP (by simp) ?_
          have e3 : ∀ j,keyP l [] j = far := fun j => by simp [keyP,mn]
          rw [e3,e3,if_neg (by omega)] at h
          exact ih (i + 1) pb _ (by omega) (.inr ⟨rfl,hpb,hpk⟩) h
        · have hall : ∀ v ∈ ks.map (at_ l),pnt v = true := by
            intro v hv
            obtain ⟨k,h1,rfl⟩ := List.mem_map.1 hv
            exact hla _ (at_mem (hks k h1))
          have hne : ks.map (at_ l) ≠ [] := by simpa using hk0
          have c30a := c30 X hX (ks.map (at_ l)) (l.getD i default) (hla _ (at_mem hlt)) hlen hall hne
          have c30b := c30 X hX (ks.map (at_ l)) (l.getD pb default) (hla _ (at_mem hpb)) hlen hall hne
          refine condP (by have := List.length_pos_iff.2 hk0; omega) (condT (by rw [encL_length]; exact gd hlt) ?_)
          refine bindS c30a ?_
          refine condT (by rw [encL_length]; exact gd hpb) ?_
          refine bindS c30b ?_
          rw [keyP_far hla hks hlt hik hk0,keyP_far hla hks hpb hpk hk0] at h
          change cond (decide (nr (at_ l i) (ks.map (at_ l)) > nr (at_ l pb) (ks.map (at_ l)))) _ _ = _
          by_cases hg : nr (at_ l i) (ks.map (at_ l)) > nr (at_ l pb) (ks.map (at_ l))
          · rw [if_pos hg] at h
            exact condP hg (ih (i + 1) i _ (by omega) (.inr ⟨rfl,hlt,hik⟩) h)
          · rw [if_neg hg] at h
            exact condNP hg (ih (i + 1) pb _ (by omega) (.inr ⟨rfl,hpb,hpk⟩) h)
theorem l11 (l : List V3) (hl : l.length ≤ 4096) (hla : ∀ v ∈ l,pnt v = true) (hu : up l = true) (many : Nat) (hm : many ≤ l.length) : ∀ m t,t + m = many →
    L tab (run tab X) 11 [] [.lp [1,1,1,1,0,0]] (S11_111100 (encL l) (many : Int) 0 t (encL ((pk l t).map (at_ l)))) = some ([.fresh true kV (encL ((pk l many).map (at_ l))),.p (.int .i64 0)],[]) := by
  intro m
  induction m with
  | zero =>
    intro t ht
    refine L_of ?_
    rw [e11_111100]
    refine condNP (by omega) ?_
    rw [List.drop_zero,List.take_of_length_le (by simp)]
    rw [show t = many by omega]
  | succ m ih =>
    intro t ht
    refine L_of ?_
    rw [e11_111100]
    refine condP (by omega) ?_
    have := l11i X hX l hl hla hu (many : Int) (pk l t) (pk_lt l t (by omega)) (by rw [pk_length]; omega) (pigeon (by rw [pk_length]; omega)) ([.fresh true kV (encL ((pk l many).map (at_ l))),.p (.int .i64 0)],[]) l.length 0 0 (-1) (by omega) (.inl ⟨rfl,rfl,fun j hj => by omega⟩) (by
      rw [pk_length]; exact ih (t + 1) (by omega))
    rw [pk_length] at this
    exact this
theorem c11 (l : List V3) (hl : l.length ≤ 2147483648) (many : Int) : run tab X 11 [.p (.list true kV (encL l)),.p (.int .i64 many)] [] = some ([.fresh true kV (encL (pickR l many).1),.p (.int .i64 (pickR l many).2)],[]) :=
  run_of (hX _ rfl) (by
    rw [e11,c20 X hX l hl]
    simp only [Option.bind_some,List.headD_cons,pv_p,toBool_bool]
    unfold pickR
    by_cases h1 : isSet l = true
    · rw [h1]
      simp only [Bool.not_true,cond_false]
      by_cases h2 : many < 0
      · rw [if_neg (by omega)]; exact condP h2 rfl
      · rw [if_pos ⟨trivial,by omega⟩]
        refine condNP h2 ?_
        by_cases h3 : many > l.length
        · rw [if_pos h3]; exact condP (by rw [encL_length]; omega) rfl
        · rw [if_neg h3]
          refine condNP (by rw [encL_length]; omega) ?_
          obtain ⟨k,rfl⟩ : ∃ k : Nat,many = (k : Int) := ⟨many.toNat,by omega⟩
          rw [tn]
          exact l11 X hX l (set_pts h1).1 (set_pts h1).2 (set_up h1) k (by omega) k 0 (by omega)
    · have h1' : isSet l = false := by simpa using h1
      rw [h1',if_neg (by simp)]; rfl)
def Known (X : Ext) : Prop := run tab X 9 [] [] = some ([.p (.bool true)],[])
omit hX in
theorem known_end (hN : Known X) : ((run tab X 9 [] []).bind fun r => some ([AV.p (.bool ((r.1.headD .undef).pv.toBool))],([] : List Blk))) = some ([.p (.bool true)],[]) := bindS hN rfl
theorem law4 (hN : Known X) (l : List V3) : run tab X 4 [.p (.list true kV (encL l))] [] = some ([.p (.bool true)],[]) :=
  run_of (hX _ rfl) (by
    rw [e4]
    by_cases h : l.length > 40
    · exact condP (by rw [encL_length]; omega) (known_end X hN)
    · refine condNP (by rw [encL_length]; omega) ?_
      rw [c13 X hX l (by omega),c14 X hX l (by omega)]
      exact condEqs rfl (condEqs rfl (known_end X hN)))
theorem law5 (hN : Known X) (l ch : List V3) : run tab X 5 [.p (.list true kV (encL l)),.p (.list true kV (encL ch))] [] = some ([.p (.bool true)],[]) :=
  run_of (hX _ rfl) (by
    rw [e5]
    by_cases h : l.length > 40
    · exact condP (by rw [encL_length]; omega) (known_end X hN)
    · refine condNP (by rw [encL_length]; omega) ?_
      by_cases h2 : ch.length > 40
      · exact condP (by rw [encL_length]; omega) (known_end X hN)
      · refine condNP (by rw [encL_length]; omega) ?_
        rw [c15 X hX l ch (by omega) (by omega),c16 X hX l ch (by omega) (by omega)]
        exact condEqs rfl (condEqs rfl (known_end X hN)))
theorem l3 (hN : Known X) (l : List V3) (hl : l.length ≤ 25) (n : Nat) (hn : n ≤ 100000) : ∀ m i (A : List PV),i + m = n →
    L tab (run tab X) 3 [] [.lp [1,1,1,1,1,1,0,1,0]] (S3_111111010 (encL l) 0 l.length 0 n (n : Int) (i : Int) (encL l) A) = some ([.p (.bool true)],[]) := by
  intro m
  induction m with
  | zero =>
    intro i A hi
    refine L_of ?_
    rw [e3_111111010]
    refine condNP (by omega) ?_
    rw [List.drop_zero,List.take_of_length_le (by simp),c12 X hX l l (by omega)]
    simp only [Option.bind_some,List.headD_cons,pv_p,toBool_bool,decide_true,cond_true]
    exact known_end X hN
  | succ m ih =>
    intro i A hi
    have hlt : i < n := by omega
    refine L_of ?_
    rw [e3_111111010]
    refine condP (by omega) (condT (gd hlt) (condT (gd hlt) ?_))
    rw [wr1 (show i < 1099511627776 by omega)]
    exact ih (i + 1) _ (by omega)
theorem law3 (hN : Known X) (hK : Clones X) (l : List V3) (many : Int) : run tab X 3 [.p (.list true kV (encL l)),.p (.int .i64 many)] [] = some ([.p (.bool true)],[]) :=
  run_of (hX _ rfl) (by
    rw [e3]
    by_cases h : l.length > 25
    · exact condP (by rw [encL_length]; omega) (known_end X hN)
    · have hp := pickR_len l many
      refine condNP (by rw [encL_length]; omega) (condP (p := (encL l).length ≤ 2147483648) (by rw [encL_length]; omega) ?_)
      rw [List.drop_zero,List.take_of_length_le (Nat.le_refl _),c10 X hX hK l (by omega),c11 X hX l (by omega)]
      simp only [Option.bind_some,List.headD_cons,freshList_fresh,List.drop_zero,List.tail_cons,pv_p,toInt_int,encL_length]
      rw [List.take_of_length_le (by simp),c12 X hX _ _ (by omega)]
      simp only [Option.bind_some,List.headD_cons,pv_p,toBool_bool,decide_true,Bool.not_true,cond_false]
      refine condEq rfl ?_
      exact l3 X hX hN l (by omega) (pickR l many).1.length (by omega) (pickR l many).1.length 0 _ (by omega))
end
end Go.Skm.Sct
