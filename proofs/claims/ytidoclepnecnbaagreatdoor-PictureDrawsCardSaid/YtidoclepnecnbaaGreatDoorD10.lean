/-
  The spots of a scene, in order, for both; condition: at most forty points.
-/
import Derived.Test.YtidoclepnecnbaaGreatDoorD9
namespace Go.Skm.Drw
open Go Go.Skm
noncomputable def rt (m : Int) : Int := open Classical in if h : ∃ s, IsRoot m s then h.choose else 0
theorem rt_eq {m s : Int} (h : IsRoot m s) : rt m = s := by
  have : ∃ s, IsRoot m s := ⟨s, h⟩
  unfold rt
  rw [dif_pos this]
  exact root_uniq this.choose_spec h
noncomputable def spF (c : Cam) (rad : Int) (i : Nat) (p : V3) : Option Sp := (spotI c p).map fun q => ⟨(i : Int), q.1, q.2.1, max 1 (rt (num c rad / q.2.2 / q.2.2)), q.2.2⟩
def spQ : Option Sp → List AV × List Blk
  | some s => ([.p (encS ⟨0, s.x, s.y, s.r, s.z⟩), .p (.bool true)], [])
  | none => ([.p (encS ⟨0, 0, 0, 0, 0⟩), .p (.bool false)], [])
theorem spR_eq (c : Cam) (rad : Int) (i : Nat) (p : V3) (s : Int) (h : ∀ x y z, spotI c p = some (x, y, z) → IsRoot (num c rad / z / z) s) : spotR s (spotI c p) = spQ (spF c rad i p) := by
  unfold spF
  cases e : spotI c p with
  | none => rfl
  | some q =>
    obtain ⟨x, y, z⟩ := q
    have := rt_eq (h x y z e)
    simp only [Option.map_some, spotR, spQ, this]
noncomputable def scn (c : Cam) (rad : Int) : Nat → List V3 → List Sp
  | _, [] => []
  | i, p :: l => match spF c rad i p with
    | some s => s :: scn c rad (i + 1) l
    | none => scn c rad (i + 1) l
theorem spF_i {c : Cam} {rad : Int} {i : Nat} {p : V3} {s : Sp} (h : spF c rad i p = some s) : s.i = i := by
  unfold spF at h
  cases e : spotI c p with
  | none => rw [e] at h; cases h
  | some q => rw [e] at h; simp only [Option.map_some, Option.some.injEq] at h; rw [← h]
theorem spF_z {c : Cam} (hc : CamOk c) {rad : Int} {i : Nat} {p : V3} (hp : Bd p 1048576) {s : Sp} (h : spF c rad i p = some s) : 0 ≤ s.z ∧ s.z ≤ 2000000000 := by
  unfold spF at h
  cases e : spotI c p with
  | none => rw [e] at h; cases h
  | some q =>
    rw [e] at h
    simp only [Option.map_some, Option.some.injEq] at h
    rw [← h]
    have b := wdot_bd (sub_bd hp hc.e) hc.f (by decide)
    have n := hc.n
    unfold spotI at e
    by_cases h1 : wdot (sub p c.e) c.f < c.n
    · rw [if_pos h1] at e; cases e
    · rw [if_neg h1] at e
      split at e
      · simp only [Option.some.injEq] at e
        rw [← e]
        simp only
        omega
      · cases e
theorem scn_mem (c : Cam) (rad : Int) : ∀ (l : List V3) (i : Nat) (s : Sp), s ∈ scn c rad i l → ∃ j p, i ≤ j ∧ j < i + l.length ∧ p ∈ l ∧ spF c rad j p = some s := by
  intro l
  induction l with
  | nil => intro i s h; exact absurd h (List.not_mem_nil)
  | cons p l ih =>
    intro i s h
    unfold scn at h
    cases e : spF c rad i p with
    | none =>
      rw [e] at h
      obtain ⟨j, q, h1, h2, h3, h4⟩ := ih (i + 1) s h
      exact ⟨j, q, by omega, by simp; omega, by simp [h3], h4⟩
    | some t =>
      rw [e] at h
      rcases List.mem_cons.mp h with rfl | h
      · exact ⟨i, p, by omega, by simp, by simp, e⟩
      · obtain ⟨j, q, h1, h2, h3, h4⟩ := ih (i + 1) s h
        exact ⟨j, q, by omega, by simp; omega, by simp [h3], h4⟩
theorem scn_ix (c : Cam) (rad : Int) : ∀ (l : List V3) (i : Nat), IX (scn c rad i l) := by
  intro l
  induction l with
  | nil => intro i; exact List.Pairwise.nil
  | cons p l ih =>
    intro i
    unfold scn
    cases e : spF c rad i p with
    | none => exact ih (i + 1)
    | some t =>
      refine List.pairwise_cons.mpr ⟨?_, ih (i + 1)⟩
      intro s hs
      obtain ⟨j, q, h1, h2, h3, h4⟩ := scn_mem c rad l (i + 1) s hs
      have a := spF_i e
      have b := spF_i h4
      omega
theorem scn_len (c : Cam) (rad : Int) : ∀ (l : List V3) (i : Nat), (scn c rad i l).length ≤ l.length := by
  intro l
  induction l with
  | nil => intro i; exact Nat.le_refl _
  | cons p l ih =>
    intro i
    have := ih (i + 1)
    unfold scn
    cases e : spF c rad i p with
    | none => simp only [List.length_cons]; omega
    | some t => simp only [List.length_cons]; omega
theorem scn_zb {c : Cam} (hc : CamOk c) (rad : Int) (l : List V3) (hl : ∀ p ∈ l, Bd p 1048576) (i : Nat) : ZB (scn c rad i l) := by
  intro s hs
  obtain ⟨j, q, h1, h2, h3, h4⟩ := scn_mem c rad l i s hs
  exact spF_z hc (hl q h3) h4
theorem lt_asymm {a b : Sp} (h1 : lt a b) (h2 : lt b a) : False := by
  unfold lt at h1 h2
  omega
theorem sorted_uniq : ∀ {a b : List Sp}, SL a → SL b → a.Perm b → a = b := by
  intro a
  induction a with
  | nil => intro b _ _ h; exact (List.Perm.nil_eq h)
  | cons x a ih =>
    intro b ha hb h
    match b, hb, h with
    | [], hb, h => exact absurd h.length_eq (by simp)
    | y :: b, hb, h =>
      have ha' := List.pairwise_cons.mp ha
      have hb' := List.pairwise_cons.mp hb
      have hxy : x = y := by
        rcases List.mem_cons.mp (h.mem_iff.mp (List.mem_cons_self)) with e | e
        · exact e
        · rcases List.mem_cons.mp (h.mem_iff.mpr (List.mem_cons_self)) with e' | e'
          · exact e'.symm
          · exact (lt_asymm (hb'.1 x e) (ha'.1 y e')).elim
      subst hxy
      rw [ih ha'.2 hb'.2 (List.Perm.cons_inv h)]
abbrev S16c (rad : Int) (n : Nat) (l : List V3) (i : Nat) (c : Cam) (B : List Sp) : St := S16_111010 rad 0 n (encW l) ((l.length : Nat) : Int) ((i : Nat) : Int) c.e.x c.e.y c.e.z c.r.x c.r.y c.r.z c.u.x c.u.y c.u.z c.f.x c.f.y c.f.z c.fo c.w c.h c.n (encT B)
abbrev S17c (rad : Int) (n : Nat) (l : List V3) (i : Nat) (c : Cam) (B : List Sp) : St := S17_111010 (encW l) rad 0 n ((i : Nat) : Int) c.e.x c.e.y c.e.z c.r.x c.r.y c.r.z c.u.x c.u.y c.u.z c.f.x c.f.y c.f.z c.fo c.w c.h c.n (encT B)
abbrev S17d (rad : Int) (n : Nat) (l : List V3) (i : Nat) (at_ : Nat) (c : Cam) (B : List Sp) (s : Sp) : St := S17_111010_100111100 (encW l) rad 0 n ((i : Nat) : Int) ((at_ : Nat) : Int) c.e.x c.e.y c.e.z c.r.x c.r.y c.r.z c.u.x c.u.y c.u.z c.f.x c.f.y c.f.z c.fo c.w c.h c.n (encT B) s.i s.x s.y s.r s.z
section
variable (X : Ext) (hX : Mine X)
include hX
theorem c30s (c : Cam) (hc : camV c = true) (p : V3) (hp : Bd p 1048576) {rad : Int} (h0 : 0 ≤ rad) (h1 : rad ≤ 1000) (i : Nat) :
    run tab X 30 [.p (encCam c), .p (encV p), .p (.int .i64 rad)] [] = some (spQ (spF c rad i p)) ∧ run tab X 34 [.p (encCam c), .p (encV p), .p (.int .i64 rad)] [] = some (spQ (spF c rad i p)) := by
  have hu : 0 ≤ wdot c.u c.u := by
    simp only [camV, Bool.and_eq_true] at hc
    exact wdot_nn hc.2.2.1
  obtain ⟨s, e1, e2⟩ := c30 X hX c (cam_ok hc) hu p hp h0 h1
  have e3 := c34 X hX c (cam_ok hc) hu p hp h0 h1 s e2
  rw [← spR_eq c rad i p s e2]
  exact ⟨e1, e3⟩
theorem c16_loop (c : Cam) (hc : camV c = true) {rad : Int} (h0 : 0 ≤ rad) (h1 : rad ≤ 1000) (l : List V3) (hl : l.length ≤ 40) (hp : ∀ p ∈ l, Bd p 1048576) (F W : List Sp) (hW : W.length = F.length) (h31 : run tab X 31 [.slice 100000 5 0 F.length, .p (.fn 32 [])] (rowB F) = some ([], rowB W)) : ∀ (n i : Nat) (out : List Sp), i + n = l.length → out.length ≤ i → out ++ scn c rad i (l.drop i) = F →
    L tab (run tab X) 16 [] [.lp [1, 1, 1, 0, 1, 0]] (S16c rad out.length l i c out) = some ([.fresh true kS (encT W), .p (.int .i64 0)], []) := by
  intro n
  induction n with
  | zero =>
    intro i out hi ho hF
    rw [List.drop_eq_nil_of_le (by omega)] at hF
    simp only [scn, List.append_nil] at hF
    subst hF
    refine L_of ?_
    rw [e16_111010]
    refine condNP (show ¬ ((i : Nat) : Int) < ((l.length : Nat) : Int) by omega) (bindS h31 ?_)
    show some ([AV.fresh true kS (((encT W).drop 0).take out.length), AV.p (PV.int IntKind.i64 0)], []) = _
    rw [List.drop_zero, List.take_of_length_le (by rw [encT_length]; omega)]
  | succ n ih =>
    intro i out hi ho hF
    have hil : i < l.length := by omega
    have w : IntKind.i64.wrap (((i : Nat) : Int) + 1) = ((i + 1 : Nat) : Int) := by rw [wrap_eq (by omega) (by omega)]; omega
    have e30 := (c30s X hX c hc l[i] (hp _ (List.getElem_mem hil)) h0 h1 i).1
    refine L_of ?_
    rw [e16_111010, w]
    refine condP (show ((i : Nat) : Int) < ((l.length : Nat) : Int) by omega) (condT (by rw [encW_length]; exact in_bd hil) ?_)
    rw [Int.toNat_natCast, encW_x l hil, encW_y l hil, encW_z l hil]
    refine bindS e30 ?_
    rw [List.drop_eq_getElem_cons hil] at hF
    unfold scn at hF
    cases e : spF c rad i l[i] with
    | none =>
      rw [e] at hF
      exact condF rfl (ih (i + 1) out (by omega) (by omega) hF)
    | some s =>
      rw [e] at hF
      have hi' := spF_i e
      refine condT rfl (condT (by simp only [leN, decide_eq_true_eq]; omega) ?_)
      have := ih (i + 1) (out ++ [s]) (by omega) (by simp; omega) (by rw [← hF]; simp)
      rw [List.length_append, List.length_singleton] at this
      rw [List.drop_zero, List.take_of_length_le (by rw [encT_length]; omega)]
      have e2 : encT out ++ [PV.agg [.int .i64 ((i : Nat) : Int), .int .i64 s.x, .int .i64 s.y, .int .i64 s.r, .int .i64 s.z]] = encT (out ++ [s]) := by
        simp [encT, encS, hi']
      refine Eq.trans (congrArg (fun T => L tab (run tab X) 16 [] [.lp [1, 1, 1, 0, 1, 0]] (S16_111010 rad 0 (out.length + 1) (encW l) ((l.length : Nat) : Int) ((i + 1 : Nat) : Int) c.e.x c.e.y c.e.z c.r.x c.r.y c.r.z c.u.x c.u.y c.u.z c.f.x c.f.y c.f.z c.fo c.w c.h c.n T)) e2) ?_
      exact this
theorem c17_in (c : Cam) {rad : Int} (l : List V3) (i : Nat) (hi : i < 40) (s : Sp) : ∀ (ra B : List Sp), ra.length + B.length ≤ 40 → SL (ra.reverse ++ B) → (∀ v ∈ ra.reverse ++ B, v.i < s.i) → (∀ v ∈ B, lt s v) →
    ∃ W, SL W ∧ W.Perm (ra.reverse ++ B ++ [s]) ∧ ∀ x, L tab (run tab X) 17 [] [.lp [1, 1, 1, 0, 1, 0]] (S17c rad W.length l (i + 1) c W) = some x →
      L tab (run tab X) 17 [] [.lp [1, 1, 1, 0, 1, 0], .lp [1, 0, 0, 1, 1, 1, 1, 0, 0]] (S17d rad (ra.length + B.length) l i ra.length c (ra.reverse ++ B) s) = some x := by
  have _ := hX
  intro ra
  have wi : IntKind.i64.wrap (((i : Nat) : Int) + 1) = ((i + 1 : Nat) : Int) := by rw [wrap_eq (by omega) (by omega)]; omega
  have fin : ∀ (A B : List Sp), A.length + B.length ≤ 40 → (∀ v ∈ A, lt v s) → (∀ v ∈ B, lt s v) → SL (A ++ B) → ∃ W, SL W ∧ W.Perm (A ++ B ++ [s]) ∧ ∀ x, L tab (run tab X) 17 [] [.lp [1, 1, 1, 0, 1, 0]] (S17c rad W.length l (i + 1) c W) = some x →
      (bif ((leI (0 : Int) ((A.length : Nat) : Int)) && ((leI ((A.length : Nat) : Int) ((A.length + B.length : Nat) : Int)) && (leI ((A.length + B.length : Nat) : Int) ((A.length + B.length : Nat) : Int)))) then bif (leN ((((A.length : Nat) : Int) - (0 : Int)).toNat) 2147483648) then bif (leN ((((A.length : Nat) : Int) - (0 : Int)).toNat + 1) 2147483648) then bif ((leI (0 : Int) ((A.length : Nat) : Int)) && ((leI ((A.length : Nat) : Int) ((A.length + B.length : Nat) : Int)) && ((leI ((A.length + B.length : Nat) : Int) ((A.length + B.length : Nat) : Int)) && (leI ((A.length + B.length : Nat) : Int) ((A.length + B.length : Nat) : Int))))) then bif (leN (((((A.length : Nat) : Int) - (0 : Int)).toNat + 1) + (((A.length + B.length : Nat) : Int) - ((A.length : Nat) : Int)).toNat) 2147483648) then L tab (run tab X) 17 [] [.lp [1, 1, 1, 0, 1, 0]] (S17_111010 (encW l) rad 0 (((((A.length : Nat) : Int) - (0 : Int)).toNat + 1) + (((A.length + B.length : Nat) : Int) - ((A.length : Nat) : Int)).toNat) ((i + 1 : Nat) : Int) c.e.x c.e.y c.e.z c.r.x c.r.y c.r.z c.u.x c.u.y c.u.z c.f.x c.f.y c.f.z c.fo c.w c.h c.n ((((((((encT (A ++ B)).drop (0 + 0)).take ((((A.length : Nat) : Int) - (0 : Int)).toNat)).drop 0).take ((((A.length : Nat) : Int) - (0 : Int)).toNat)) ++ ([.agg [.int .i64 s.i, .int .i64 s.x, .int .i64 s.y, .int .i64 s.r, .int .i64 s.z]] : List PV)).drop 0).take ((((A.length : Nat) : Int) - (0 : Int)).toNat + 1) ++ (((encT (A ++ B)).drop (0 + ((A.length : Nat) : Int).toNat)).take ((((A.length + B.length : Nat) : Int) - ((A.length : Nat) : Int)).toNat)))) else none else none else none else none else none) = some x := by
    intro A B hl hA hB hs
    have hs' := List.pairwise_append.mp hs
    refine ⟨A ++ s :: B, ?_, ?_, fun x hx => ?_⟩
    · refine List.pairwise_append.mpr ⟨hs'.1, List.pairwise_cons.mpr ⟨hB, hs'.2.1⟩, ?_⟩
      intro v hv y hy
      rcases List.mem_cons.mp hy with rfl | hy
      · exact hA v hv
      · exact hs'.2.2 v hv y hy
    · rw [List.append_assoc]
      exact List.Perm.append_left A (List.perm_append_singleton s B).symm
    · have n1 : (((A.length : Nat) : Int) - 0).toNat = A.length := by omega
      have n2 : (((A.length + B.length : Nat) : Int) - ((A.length : Nat) : Int)).toNat = B.length := by omega
      rw [n1, n2, Int.toNat_natCast]
      refine condT (by simp only [leI, Bool.and_eq_true, decide_eq_true_eq]; omega) (condT (by simp only [leN, decide_eq_true_eq]; omega) (condT (by simp only [leN, decide_eq_true_eq]; omega) (condT (by simp only [leI, Bool.and_eq_true, decide_eq_true_eq]; omega) (condT (by simp only [leN, decide_eq_true_eq]; omega) ?_))))
      have e1 : ((((((encT (A ++ B)).drop (0 + 0)).take A.length).drop 0).take A.length ++ ([.agg [.int .i64 s.i, .int .i64 s.x, .int .i64 s.y, .int .i64 s.r, .int .i64 s.z]] : List PV)).drop 0).take (A.length + 1) ++ ((encT (A ++ B)).drop (0 + A.length)).take B.length = encT (A ++ s :: B) := by
        have a1 : (encT (A ++ B)).take A.length = encT A := by simp [encT]
        have a2 : (encT (A ++ B)).drop A.length = encT B := by simp [encT]
        simp only [Nat.zero_add, List.drop_zero, a1, a2]
        rw [List.take_of_length_le (show (encT A).length ≤ A.length by rw [encT_length]; omega), List.take_of_length_le (by simp), List.take_of_length_le (show (encT B).length ≤ B.length by rw [encT_length]; omega)]
        simp [encT, encS]
      rw [e1]
      rw [← hx, show A.length + 1 + B.length = (A ++ s :: B).length by simp; omega]
  induction ra with
  | nil =>
    intro B h1 h2 h3 h4
    obtain ⟨W, a1, a2, a3⟩ := fin [] B (by simpa using h1) (by intro v hv; exact absurd hv (List.not_mem_nil)) h4 (by simpa using h2)
    refine ⟨W, a1, a2, fun x hx => L_of ?_⟩
    rw [e17_111010_100111100, wi]
    refine condNP (show ¬ ((([] : List Sp).length : Nat) : Int) > 0 by simp) ?_
    exact a3 x hx
  | cons v ra ih =>
    intro B h1 h2 h3 h4
    simp only [List.length_cons] at h1
    have eR : (v :: ra).reverse = ra.reverse ++ [v] := by simp
    rw [eR] at h2 h3
    have hp := List.pairwise_append.mp h2
    have lc : (v :: ra).length = ra.length + 1 := rfl
    have w1 : IntKind.i64.wrap (((ra.length + 1 : Nat) : Int) - 1) = ((ra.length : Nat) : Int) := by rw [wrap_eq (by omega) (by omega)]; omega
    have gv : ((((encT ((v :: ra).reverse ++ B)).getD (0 + ra.length) .nil).cell 4).toInt) = v.z := by
      rw [Nat.zero_add, encT_getD _ (by simp)]
      have : ((v :: ra).reverse ++ B)[ra.length]'(by simp) = v := by
        have : ((v :: ra).reverse ++ B)[ra.length]? = some v := by
          rw [eR, List.append_assoc, List.getElem?_append_right (by simp)]
          simp
        rw [List.getElem?_eq_getElem (by simp)] at this
        exact Option.some.inj this
      rw [this]
      rfl
    by_cases hlt : v.z < s.z
    · have eR2 : ra.reverse ++ [v] ++ B = ra.reverse ++ (v :: B) := by simp
      obtain ⟨W, a1, a2, a3⟩ := ih (v :: B) (by simp only [List.length_cons]; omega) (by rw [← eR2]; exact h2) (by rw [← eR2]; exact h3) (by
        intro w hw
        rcases List.mem_cons.mp hw with rfl | hw
        · exact .inl hlt
        · exact h4 w hw)
      refine ⟨W, a1, by rw [eR, eR2]; exact a2, fun x hx => L_of ?_⟩
      rw [e17_111010_100111100, lc, w1, Int.toNat_natCast, gv]
      refine condP (show ((ra.length + 1 : Nat) : Int) > 0 by omega) (condT (in_bd (by omega)) (condP (show v.z < s.z from hlt) ?_))
      have := a3 x hx
      rw [List.length_cons] at this
      rw [show ra.length + 1 + B.length = ra.length + (B.length + 1) by omega, eR, eR2]
      exact this
    · obtain ⟨W, a1, a2, a3⟩ := fin (ra.reverse ++ [v]) B (by simp; omega) (by
        intro w hw
        have iw := h3 w (List.mem_append_left _ hw)
        have zw : v.z ≤ w.z := by
          rcases List.mem_append.mp hw with hw | hw
          · rcases (List.pairwise_append.mp hp.1).2.2 w hw v (by simp) with h | h <;> omega
          · rw [List.mem_singleton.mp hw]; omega
        unfold lt
        omega) h4 h2
      refine ⟨W, a1, by rw [eR]; exact a2, fun x hx => L_of ?_⟩
      rw [e17_111010_100111100, lc, w1, wi, Int.toNat_natCast, gv]
      refine condP (show ((ra.length + 1 : Nat) : Int) > 0 by omega) (condT (in_bd (by omega)) (condNP (show ¬ v.z < s.z from hlt) ?_))
      have := a3 x hx
      rw [List.length_append, List.length_reverse, List.length_singleton] at this
      rw [eR]
      exact this
theorem c17_loop (c : Cam) (hc : camV c = true) {rad : Int} (h0 : 0 ≤ rad) (h1 : rad ≤ 1000) (l : List V3) (hl : l.length ≤ 40) (hp : ∀ p ∈ l, Bd p 1048576) : ∀ (n i : Nat) (out : List Sp), i + n = l.length → out.length ≤ i → SL out → (∀ s ∈ out, s.i < (i : Int)) →
    ∃ W, SL W ∧ W.Perm (out ++ scn c rad i (l.drop i)) ∧ L tab (run tab X) 17 [] [.lp [1, 1, 1, 0, 1, 0]] (S17c rad out.length l i c out) = some ([.fresh true kS (encT W), .p (.int .i64 0)], []) := by
  intro n
  induction n with
  | zero =>
    intro i out hi ho hs hx
    refine ⟨out, hs, ?_, L_of ?_⟩
    · rw [List.drop_eq_nil_of_le (by omega)]
      simp [scn]
    · rw [e17_111010, encW_length]
      refine condNP (show ¬ ((i : Nat) : Int) < ((l.length : Nat) : Int) by omega) ?_
      rw [List.drop_zero, List.take_of_length_le (by rw [encT_length]; omega)]
  | succ n ih =>
    intro i out hi ho hs hx
    have hil : i < l.length := by omega
    have w : IntKind.i64.wrap (((i : Nat) : Int) + 1) = ((i + 1 : Nat) : Int) := by rw [wrap_eq (by omega) (by omega)]; omega
    have e34 := (c30s X hX c hc l[i] (hp _ (List.getElem_mem hil)) h0 h1 i).2
    have hd : scn c rad i (l.drop i) = match spF c rad i l[i] with
        | some s => s :: scn c rad (i + 1) (l.drop (i + 1))
        | none => scn c rad (i + 1) (l.drop (i + 1)) := by
      rw [List.drop_eq_getElem_cons hil]
      rfl
    rw [hd]
    cases e : spF c rad i l[i] with
    | none =>
      obtain ⟨W, a1, a2, a3⟩ := ih (i + 1) out (by omega) (by omega) hs (fun s h => by have := hx s h; omega)
      refine ⟨W, a1, a2, L_of ?_⟩
      rw [e17_111010, w, encW_length]
      refine condP (show ((i : Nat) : Int) < ((l.length : Nat) : Int) by omega) (condT (in_bd hil) ?_)
      rw [Int.toNat_natCast, encW_x l hil, encW_y l hil, encW_z l hil]
      refine bindS e34 ?_
      rw [e]
      exact condT rfl a3
    | some s =>
      have hi' := spF_i e
      have eo : out.reverse.reverse = out := List.reverse_reverse _
      obtain ⟨V, b1, b2, b3⟩ := c17_in X hX c (rad := rad) l i (by omega) s out.reverse [] (by simp; omega) (by simpa using hs) (by
        intro v hv
        simp only [eo, List.append_nil] at hv
        have := hx v hv
        omega) (by intro v hv; exact absurd hv (List.not_mem_nil))
      simp only [eo, List.append_nil, List.length_nil, Nat.add_zero, List.length_reverse] at b2 b3
      have lV : V.length = out.length + 1 := by rw [b2.length_eq]; simp
      obtain ⟨W, a1, a2, a3⟩ := ih (i + 1) V (by omega) (by omega) b1 (by
        intro v hv
        rcases List.mem_append.mp (b2.mem_iff.mp hv) with h | h
        · have := hx v h; omega
        · rw [List.mem_singleton.mp h]; omega)
      refine ⟨W, a1, ?_, L_of ?_⟩
      · refine a2.trans ((b2.append_right _).trans ?_)
        simp
      · rw [e17_111010, w, encW_length]
        refine condP (show ((i : Nat) : Int) < ((l.length : Nat) : Int) by omega) (condT (in_bd hil) ?_)
        rw [Int.toNat_natCast, encW_x l hil, encW_y l hil, encW_z l hil]
        refine bindS e34 ?_
        rw [e]
        refine condF rfl ?_
        have := b3 _ a3
        obtain ⟨si, sx, sy, sr, sz⟩ := s
        have hi2 : si = (i : Int) := hi'
        subst hi2
        exact this
theorem scene (c : Cam) (rad : Int) (l : List V3) (hl : l.length ≤ 40) : ∃ (W : List Sp) (e : Int), W.length ≤ 40 ∧ (e = 0 → ∀ s ∈ W, 0 ≤ s.i ∧ s.i < (l.length : Int)) ∧
    run tab X 16 [.p (encCam c), .p (.list true kV (encW l)), .p (.int .i64 rad)] [] = some ([.fresh true kS (encT W), .p (.int .i64 e)], []) ∧
    run tab X 17 [.p (encCam c), .p (.list true kV (encW l)), .p (.int .i64 rad)] [] = some ([.fresh true kS (encT W), .p (.int .i64 e)], []) := by
  have h29 := c29 X hX c rad l (by omega)
  have h33 := c33 X hX c rad l (by omega)
  cases hf : fineP c l rad with
  | false =>
    rw [hf] at h29 h33
    refine ⟨[], 2, by simp, by intro h; exact absurd h (by decide), run_of (hX _ rfl) ?_, run_of (hX _ rfl) ?_⟩
    · rw [e16]
      exact bindS h29 rfl
    · rw [e17]
      exact bindS h33 rfl
  | true =>
    rw [hf] at h29 h33
    simp only [fineP, rng, Bool.and_eq_true, decide_eq_true_eq, List.all_eq_true] at hf
    obtain ⟨hc, ⟨h0, h1⟩, _, hp⟩ := hf
    have hp' : ∀ p ∈ l, Bd p 1048576 := fun p h => pt_bd (hp p h)
    have hlen := scn_len c rad l 0
    obtain ⟨W, a1, a2, a3⟩ := c31 X hX (scn c rad 0 l) _ rfl (by omega) (scn_zb (cam_ok hc) rad l hp' 0) (scn_ix c rad l 0)
    have lW := a2.length_eq
    have e16l := c16_loop X hX c hc h0 h1 l hl hp' (scn c rad 0 l) W lW a3 l.length 0 [] (by omega) (by simp) (by simp)
    obtain ⟨V, b1, b2, b3⟩ := c17_loop X hX c hc h0 h1 l hl hp' l.length 0 [] (by omega) (by simp) List.Pairwise.nil (by intro s hs; exact absurd hs (List.not_mem_nil))
    simp only [List.nil_append, List.drop_zero] at b2
    have hVW : V = W := sorted_uniq b1 a1 (b2.trans a2.symm)
    subst hVW
    refine ⟨V, 0, by omega, ?_, run_of (hX _ rfl) ?_, run_of (hX _ rfl) ?_⟩
    · intro _ s hs
      obtain ⟨j, q, h1, h2, h3, h4⟩ := scn_mem c rad l 0 s (a2.mem_iff.mp hs)
      have := spF_i h4
      omega
    · rw [e16]
      refine bindS h29 ?_
      refine condF rfl ?_
      rw [encW_length]
      exact e16l
    · rw [e17]
      refine bindS h33 ?_
      exact condF rfl b3
end
end Go.Skm.Drw
