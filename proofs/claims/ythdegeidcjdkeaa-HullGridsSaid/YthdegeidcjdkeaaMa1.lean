/-
  Plane geometry in whole numbers, and what the chain of a list in order is; no program, no condition beside the hypotheses of each.
-/
import Derived.Test.YthdegeidcjdkeaaCt12
namespace Go.Skm.Hull
open Go Go.Skm

def lt2 (a b : V3) : Prop := a.x < b.x ∨ (a.x = b.x ∧ a.y < b.y)
def le2 (a b : V3) : Prop := a.x < b.x ∨ (a.x = b.x ∧ a.y ≤ b.y)
theorem lt2.le {a b : V3} (h : lt2 a b) : le2 a b := by unfold lt2 at h; unfold le2; omega
theorem le2_refl (a : V3) : le2 a a := by unfold le2; omega
theorem lt2_irrefl {a : V3} (h : lt2 a a) : False := by unfold lt2 at h; omega
theorem lt2_le2 {a b : V3} (h : lt2 a b) (h2 : le2 b a) : False := by unfold lt2 at h; unfold le2 at h2; omega
theorem lt2.trans {a b c : V3} (h : lt2 a b) (h2 : lt2 b c) : lt2 a c := by unfold lt2 at *; omega
theorem le2.trans {a b c : V3} (h : le2 a b) (h2 : le2 b c) : le2 a c := by unfold le2 at *; omega
theorem lt2.trans_le {a b c : V3} (h : lt2 a b) (h2 : le2 b c) : lt2 a c := by unfold lt2 le2 at *; omega
theorem le2.trans_lt {a b c : V3} (h : le2 a b) (h2 : lt2 b c) : lt2 a c := by unfold lt2 le2 at *; omega
theorem le2_or (a b : V3) : le2 a b ∨ lt2 b a := by unfold lt2 le2; omega
theorem le2_anti {a b : V3} (h : le2 a b) (h2 : le2 b a) : a.x = b.x ∧ a.y = b.y := by unfold le2 at *; omega

theorem posOf {a : Int} (h : 0 ≤ a) (h2 : 0 = a → False) : 0 < a := by
  by_cases e : 0 = a
  · exact (h2 e).elim
  · omega
theorem mulpp {a b : Int} (ha : 0 < a) (hb : 0 < b) : 0 < a * b := Int.mul_pos ha hb
theorem mulnn {a b : Int} (ha : 0 ≤ a) (hb : 0 ≤ b) : 0 ≤ a * b := Int.mul_nonneg ha hb
theorem mulnp {a b : Int} (ha : a < 0) (hb : 0 < b) : a * b < 0 := Int.mul_neg_of_neg_of_pos ha hb

/-- A vector that is a sum of vectors to the right is not to the left. -/
theorem cone {α β γ vx vy wx wy ux uy : Int} (hv : 0 < vx ∨ (vx = 0 ∧ 0 < vy)) (hw : 0 < wx ∨ (wx = 0 ∧ 0 ≤ wy)) (hu : 0 < ux ∨ (ux = 0 ∧ 0 ≤ uy)) (hβ : 0 ≤ β) (hγ : 0 ≤ γ)
    (ex : α * vx = β * wx + γ * ux) (ey : α * vy = β * wy + γ * uy) : 0 ≤ α := by
  refine Int.not_lt.1 fun hα => ?_
  have wx0 : 0 ≤ wx := by omega
  have ux0 : 0 ≤ ux := by omega
  have h1 := mulnn hβ wx0
  have h2 := mulnn hγ ux0
  rcases hv with hv | ⟨hv0, hv⟩
  · have := mulnp hα hv; omega
  · subst hv0
    have h3 := mulnp hα hv
    rw [Int.mul_zero] at ex
    have h4 : β * wx = 0 := by omega
    have h5 : γ * ux = 0 := by omega
    have h6 : 0 ≤ β * wy := by
      rcases Int.mul_eq_zero.1 h4 with h | h
      · subst h; simp
      · exact mulnn hβ (by omega)
    have h7 : 0 ≤ γ * uy := by
      rcases Int.mul_eq_zero.1 h5 with h | h
      · subst h; simp
      · exact mulnn hγ (by omega)
    omega
theorem coneS {α β γ vx vy wx wy ux uy : Int} (hv : 0 < vx ∨ (vx = 0 ∧ 0 < vy)) (hw : 0 < wx ∨ (wx = 0 ∧ 0 < wy)) (hu : 0 < ux ∨ (ux = 0 ∧ 0 ≤ uy)) (hβ : 0 < β) (hγ : 0 ≤ γ)
    (ex : α * vx = β * wx + γ * ux) (ey : α * vy = β * wy + γ * uy) : 0 < α := by
  have h0 := cone hv (by omega) hu (Int.le_of_lt hβ) hγ ex ey
  refine posOf h0 fun e => ?_
  subst e
  rw [Int.zero_mul] at ex ey
  have ux0 : 0 ≤ ux := by omega
  have h2 := mulnn hγ ux0
  rcases hw with hw | ⟨hw0, hw⟩
  · have := mulpp hβ hw; omega
  · subst hw0
    have h3 := mulpp hβ hw
    rw [Int.mul_zero] at ex
    have h5 : γ * ux = 0 := by omega
    have h7 : 0 ≤ γ * uy := by
      rcases Int.mul_eq_zero.1 h5 with h | h
      · subst h; simp
      · exact mulnn hγ (by omega)
    omega

theorem area_self (a b : V3) : area a b b = 0 := by unfold area; grind
theorem area_self2 (a b : V3) : area a b a = 0 := by unfold area; grind
theorem area_swap (a b c : V3) : area a c b = - area a b c := by unfold area; grind
theorem area_cyc (a b c : V3) : area b c a = area a b c := by unfold area; grind
theorem area_add (a b p q : V3) : area a p q = area a b q + area b p q - area a b p := by unfold area; grind

theorem conv {a' a b p : V3} (h1 : lt2 a' a) (h2 : lt2 a b) (h3 : lt2 b p) (k1 : 0 < area a' a b) (k2 : 0 < area a b p) : 0 < area a' a p := by
  have h : 0 < (a.x - a'.x) * (p.y - b.y) - (a.y - a'.y) * (p.x - b.x) := by
    refine coneS (β := area a' a b) (γ := area a b p) (vx := b.x - a.x) (vy := b.y - a.y) (wx := p.x - b.x) (wy := p.y - b.y) (ux := a.x - a'.x) (uy := a.y - a'.y) ?_ ?_ ?_ k1 (by omega) ?_ ?_
    · unfold lt2 at *; omega
    · unfold lt2 at *; omega
    · unfold lt2 at *; omega
    · unfold area; grind
    · unfold area; grind
  have e : area a' a p = area a' a b + ((a.x - a'.x) * (p.y - b.y) - (a.y - a'.y) * (p.x - b.x)) := by unfold area; grind
  omega
theorem stopL {a t p q : V3} (h1 : lt2 a t) (h2 : lt2 t p) (h3 : lt2 q t) (k1 : 0 < area a t p) (k2 : 0 ≤ area a t q) : 0 < area t p q := by
  refine coneS (β := area a t p) (γ := area a t q) (vx := t.x - a.x) (vy := t.y - a.y) (wx := t.x - q.x) (wy := t.y - q.y) (ux := p.x - t.x) (uy := p.y - t.y) ?_ ?_ ?_ k1 k2 ?_ ?_
  · unfold lt2 at *; omega
  · unfold lt2 at *; omega
  · unfold lt2 at *; omega
  · unfold area; grind
  · unfold area; grind
theorem popL {a b p q : V3} (h1 : lt2 a b) (h2 : lt2 b p) (k1 : area a b p ≤ 0) (k2 : 0 ≤ area a b q) (h3 : le2 a q) (k3 : le2 b q → 0 ≤ area b p q) : 0 ≤ area a p q := by
  rcases le2_or b q with h | h
  · have := k3 h
    have e := area_add a b p q
    omega
  · refine cone (β := area a b q) (γ := - area a b p) (vx := b.x - a.x) (vy := b.y - a.y) (wx := p.x - a.x) (wy := p.y - a.y) (ux := q.x - a.x) (uy := q.y - a.y) ?_ ?_ ?_ k2 (by omega) ?_ ?_
    · unfold lt2 at *; omega
    · unfold lt2 at *; omega
    · unfold le2 at *; omega
    · unfold area; grind
    · unfold area; grind

/-- An edge of the lower side. -/
def Ed (S : V3 → Prop) (a b : V3) : Prop := lt2 a b ∧ ∀ q, S q → 0 ≤ area a b q ∧ (area a b q = 0 → le2 a q ∧ le2 q b)
def Good (S : V3 → Prop) : List V3 → Prop
  | b :: a :: r => Ed S a b ∧ Good S (a :: r)
  | [m] => ∀ q, S q → le2 m q
  | [] => False
def TopL (p : V3) : List V3 → Prop
  | b :: a :: _ => 0 < area a b p
  | _ => True

theorem sgn_le {n : Int} : sgn n ≤ 0 ↔ n ≤ 0 := by unfold sgn; split <;> (try split) <;> omega

theorem pop_good {S : V3 → Prop} {p : V3} (hp : ∀ q, S q → lt2 q p) : ∀ (b : V3) (s : List V3), Good S (b :: s) → (∀ v ∈ b :: s, S v) → (∀ q, S q → le2 b q → 0 ≤ area b p q) →
    ∃ c r, popS p (b :: s) = c :: r ∧ Good S (c :: r) ∧ (∀ v ∈ c :: r, S v) ∧ TopL p (c :: r) ∧ (∀ q, S q → le2 c q → 0 ≤ area c p q)
  | b, [], hg, hs, hj => ⟨b, [], rfl, hg, hs, trivial, hj⟩
  | b, a :: s, hg, hs, hj => by
    unfold popS turnS
    by_cases h : sgn (area a b p) ≤ 0
    · rw [if_pos h]
      have h' := sgn_le.1 h
      refine pop_good hp a s hg.2 (fun v hv => hs v (List.mem_cons_of_mem _ hv)) fun q hq haq => ?_
      exact popL hg.1.1 (hp b (hs b (by simp))) h' (hg.1.2 q hq).1 haq (hj q hq)
    · rw [if_neg h]
      refine ⟨b, a :: s, rfl, hg, hs, ?_, hj⟩
      have : ¬ area a b p ≤ 0 := fun x => h (sgn_le.2 x)
      show 0 < area a b p
      omega
theorem good_ext {S : V3 → Prop} {p : V3} (hp : ∀ q, S q → lt2 q p) : ∀ (b : V3) (s : List V3), Good S (b :: s) → (∀ v ∈ b :: s, S v) → TopL p (b :: s) → Good (fun q => q = p ∨ S q) (b :: s)
  | b, [], hg, hs, ht => fun q hq => by
    rcases hq with rfl | hq
    · exact (hp b (hs b (by simp))).le
    · exact hg q hq
  | b, a :: s, hg, hs, ht => by
    refine ⟨⟨hg.1.1, fun q hq => ?_⟩, good_ext hp a s hg.2 (fun v hv => hs v (List.mem_cons_of_mem _ hv)) ?_⟩
    · rcases hq with rfl | hq
      · have : 0 < area a b q := ht
        exact ⟨by omega, fun e => by omega⟩
      · exact hg.1.2 q hq
    · match s, hg, hs with
      | [], _, _ => trivial
      | a' :: s, hg, hs =>
        have hb : S b := hs b (by simp)
        have e1 := hg.2.1.2 b hb
        have k1 : 0 < area a' a b := by
          refine posOf e1.1 fun e => ?_
          exact lt2_le2 hg.1.1 (e1.2 e.symm).2
        exact conv hg.2.1.1 hg.1.1 (hp b hb) k1 ht
theorem push_good {S : V3 → Prop} {p : V3} (hp : ∀ q, S q → lt2 q p) (c : V3) (r : List V3) (hg : Good S (c :: r)) (hs : ∀ v ∈ c :: r, S v) (ht : TopL p (c :: r)) (hj : ∀ q, S q → le2 c q → 0 ≤ area c p q) :
    Good (fun q => q = p ∨ S q) (p :: c :: r) := by
  have hc : lt2 c p := hp c (hs c (by simp))
  refine ⟨⟨hc, fun q hq => ?_⟩, good_ext hp c r hg hs ht⟩
  rcases hq with rfl | hq
  · rw [area_self]
    exact ⟨by omega, fun _ => ⟨hc.le, le2_refl _⟩⟩
  · rcases le2_or c q with h | h
    · exact ⟨hj q hq h, fun _ => ⟨h, (hp q hq).le⟩⟩
    · have : 0 < area c p q := by
        match r, hg, ht with
        | [], hg, _ => exact absurd (hg q hq) fun x => lt2_le2 h x
        | a :: r, hg, ht => exact stopL hg.1.1 hc h ht (hg.1.2 q hq).1
      exact ⟨by omega, fun e => by omega⟩
theorem Good.imp {S T : V3 → Prop} (h : ∀ q, T q → S q) : ∀ {s : List V3}, Good S s → Good T s
  | [], hg => hg
  | [_], hg => fun q hq => hg q (h q hq)
  | _ :: _ :: _, hg => ⟨⟨hg.1.1, fun q hq => hg.1.2 q (h q hq)⟩, Good.imp h hg.2⟩

theorem chain_good : ∀ (l : List V3) (S : V3 → Prop) (b : V3) (s : List V3), l.Pairwise lt2 → (∀ p ∈ l, lt2 b p) → (∀ q, S q → le2 q b) → Good S (b :: s) → (∀ v ∈ b :: s, S v) →
    ∃ s', chainR (b :: s) l = (l.getLast?.getD b) :: s' ∧ Good (fun q => S q ∨ q ∈ l) ((l.getLast?.getD b) :: s') ∧ (∀ v ∈ (l.getLast?.getD b) :: s', S v ∨ v ∈ l)
  | [], S, b, s, _, _, _, hg, hs => ⟨s, rfl, hg.imp (by simp), fun v hv => Or.inl (hs v hv)⟩
  | p :: l, S, b, s, hl, hb, hmax, hg, hs => by
    have hp : ∀ q, S q → lt2 q p := fun q hq => (hmax q hq).trans_lt (hb p (by simp))
    obtain ⟨c, r, e1, g1, g2, g3, g4⟩ := pop_good hp b s hg hs (fun q hq hbq => by
      have h2 := le2_anti hbq (hmax q hq)
      have : area b p q = 0 := by unfold area; rw [h2.1, h2.2]; grind
      omega)
    have g5 := push_good hp c r g1 g2 g3 g4
    obtain ⟨s', e2, g6, g7⟩ := chain_good l _ p (c :: r) (List.pairwise_cons.1 hl).2 (List.pairwise_cons.1 hl).1 (fun q hq => by
      rcases hq with rfl | hq
      · exact le2_refl _
      · exact (hp q hq).le) g5 (fun v hv => by
      rcases List.mem_cons.1 hv with rfl | hv
      · exact Or.inl rfl
      · exact Or.inr (g2 v hv))
    have el : ((p :: l).getLast?.getD b) = l.getLast?.getD p := by
      cases l with
      | nil => rfl
      | cons x l => rw [List.getLast?_cons_cons]; simp [List.getLast?_cons]
    rw [el]
    refine ⟨s', ?_, g6.imp fun q hq => ?_, fun v hv => ?_⟩
    · rw [← e2]
      show chainR (p :: popS p (b :: s)) l = _
      rw [e1]
    · rcases hq with hq | hq
      · exact Or.inl (Or.inr hq)
      · rcases List.mem_cons.1 hq with rfl | hq
        · exact Or.inl (Or.inl rfl)
        · exact Or.inr hq
    · rcases g7 v hv with (h | h) | h
      · exact Or.inr (by simp [h])
      · exact Or.inl h
      · exact Or.inr (by simp [h])

theorem chain_good' (a : V3) (l : List V3) (h : (a :: l).Pairwise lt2) : ∃ s', chainR [] (a :: l) = (l.getLast?.getD a) :: s' ∧ Good (fun q => q ∈ a :: l) ((l.getLast?.getD a) :: s') ∧ (∀ v ∈ (l.getLast?.getD a) :: s', v ∈ a :: l) := by
  obtain ⟨s', e, g1, g2⟩ := chain_good l (fun q => q = a) a [] (List.pairwise_cons.1 h).2 (List.pairwise_cons.1 h).1 (fun q hq => by subst hq; exact le2_refl _) (fun q hq => by subst hq; exact le2_refl _) (by simp)
  refine ⟨s', e, g1.imp fun q hq => ?_, fun v hv => ?_⟩
  · rcases List.mem_cons.1 hq with rfl | hq
    · exact Or.inl rfl
    · exact Or.inr hq
  · rcases g2 v hv with h | h
    · simp [h]
    · simp [h]
end Go.Skm.Hull
