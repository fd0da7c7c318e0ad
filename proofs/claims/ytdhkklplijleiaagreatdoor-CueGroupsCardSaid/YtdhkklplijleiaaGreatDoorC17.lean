/-
  The names of the groups: both come to the same; condition: the library's answers, names that fit.
-/
import Derived.Test.YtdhkklplijleiaaGreatDoorC16
namespace Go.Skm.Cue
open Go Go.Skm
def SU (l : List By) : Prop := l.Pairwise fun a b => bytesLt a b = true
theorem lt_asymm {a b : By} (h : bytesLt a b = true) : bytesLt b a = false := by
  cases hb : bytesLt b a with
  | false => rfl
  | true => have := bytesLt_trans h hb; rw [bytesLt_irrefl] at this; cases this
theorem le_lt {a b c : By} (h1 : bytesLt b a = false) (h2 : bytesLt b c = true) : bytesLt a c = true := by
  rcases bytesLt_tri a b with h | h | h
  · exact bytesLt_trans h h2
  · rw [h]; exact h2
  · rw [h] at h1; cases h1
theorem su_ext : ∀ {a b : List By}, SU a → SU b → (∀ x, x ∈ a ↔ x ∈ b) → a = b
  | [], [], _, _, _ => rfl
  | [], y :: b, _, _, h => by have := (h y).2 (by simp); simp at this
  | x :: a, [], _, _, h => by have := (h x).1 (by simp); simp at this
  | x :: a, y :: b, ha, hb, h => by
    have a1 := List.pairwise_cons.1 ha
    have b1 := List.pairwise_cons.1 hb
    have e : x = y := by
      rcases List.mem_cons.1 ((h x).1 (by simp)) with e | e
      · exact e
      · rcases List.mem_cons.1 ((h y).2 (by simp)) with e2 | e2
        · exact e2.symm
        · have := b1.1 x e
          rw [lt_asymm (a1.1 y e2)] at this; cases this
    subst e
    refine congrArg _ (su_ext a1.2 b1.2 fun z => ?_)
    have ne : ∀ {l : List By}, (∀ z ∈ l, bytesLt x z = true) → z ∈ l → z ≠ x := fun hl hz e => by
      have := hl z hz
      rw [e, bytesLt_irrefl] at this; cases this
    constructor
    · intro hz
      rcases List.mem_cons.1 ((h z).1 (by simp [hz])) with e | e
      · exact absurd e (ne a1.1 hz)
      · exact e
    · intro hz
      rcases List.mem_cons.1 ((h z).2 (by simp [hz])) with e | e
      · exact absurd e (ne b1.1 hz)
      · exact e
theorem cp_mem (s : List By) (z : By) : ∀ n, n ≤ s.length → (z ∈ cp s n ↔ ∃ j, j < n ∧ s.getD j [] = z)
  | 0, _ => by simp [cp]
  | n + 1, hn => by
    have ih := cp_mem s z n (by omega)
    unfold cp
    split
    · next h =>
      rw [ih]
      constructor
      · rintro ⟨j, hj, e⟩; exact ⟨j, by omega, e⟩
      · rintro ⟨j, hj, e⟩
        by_cases hjn : j = n
        · subst hjn; exact ⟨j - 1, by omega, by rw [← h.2]; exact e⟩
        · exact ⟨j, by omega, e⟩
    · rw [List.mem_append, ih, List.mem_singleton]
      constructor
      · rintro (⟨j, hj, e⟩ | e)
        · exact ⟨j, by omega, e⟩
        · exact ⟨n, by omega, e.symm⟩
      · rintro ⟨j, hj, e⟩
        by_cases hjn : j = n
        · subst hjn; exact .inr e.symm
        · exact .inl ⟨j, by omega, e⟩
theorem cp_su {s : List By} (h : s.Pairwise fun a b => bytesLt b a = false) : ∀ n, n ≤ s.length → SU (cp s n)
  | 0, _ => by simp [cp, SU]
  | n + 1, hn => by
    have ih := cp_su h n (by omega)
    have le : ∀ i j, i < j → j < s.length → bytesLt (s.getD j []) (s.getD i []) = false := by
      intro i j hij hj
      have := (List.pairwise_iff_getElem.1 h) i j (by omega) hj hij
      simpa [List.getD_eq_getElem?_getD, hj, Nat.lt_trans hij hj] using this
    unfold cp
    split
    · exact ih
    · next hne =>
      unfold SU
      rw [List.pairwise_append]
      refine ⟨ih, by simp, fun a ha b hb => ?_⟩
      rw [List.mem_singleton] at hb
      subst hb
      obtain ⟨j, hj, rfl⟩ := (cp_mem s a n (by omega)).1 ha
      have h1 : bytesLt (s.getD (n - 1) []) (s.getD n []) = true := by
        rcases bytesLt_tri (s.getD (n - 1) []) (s.getD n []) with h | h | h
        · exact h
        · exact absurd ⟨by omega, h.symm⟩ hne
        · rw [le (n - 1) n (by omega) (by omega)] at h; cases h
      by_cases e : j = n - 1
      · rw [e]; exact h1
      · exact le_lt (le j (n - 1) (by omega) (by omega)) h1
def insN (g : By) : List By → List By
  | [] => [g]
  | x :: r => if bytesLt x g then x :: insN g r else if x = g then x :: r else g :: x :: r
theorem insN_mem (g z : By) : ∀ l : List By, z ∈ insN g l ↔ z = g ∨ z ∈ l
  | [] => by simp [insN]
  | x :: r => by
    unfold insN
    split
    · rw [List.mem_cons, insN_mem g z r, List.mem_cons]
      constructor
      · rintro (h | h | h)
        · exact .inr (.inl h)
        · exact .inl h
        · exact .inr (.inr h)
      · rintro (h | h | h)
        · exact .inr (.inl h)
        · exact .inl h
        · exact .inr (.inr h)
    · split
      · next h => subst h; simp
      · simp
theorem insN_su (g : By) : ∀ {l : List By}, SU l → SU (insN g l)
  | [], _ => by simp [insN, SU]
  | x :: r, h => by
    have h1 := List.pairwise_cons.1 h
    unfold insN
    split
    · next hx =>
      refine List.pairwise_cons.2 ⟨fun z hz => ?_, insN_su g h1.2⟩
      rcases (insN_mem g z r).1 hz with rfl | hz
      · exact hx
      · exact h1.1 z hz
    · next hx =>
      split
      · exact h
      · next hne =>
        have hg : bytesLt g x = true := by
          rcases bytesLt_tri x g with h | h | h
          · exact absurd h hx
          · exact absurd h hne
          · exact h
        refine List.pairwise_cons.2 ⟨fun z hz => ?_, h⟩
        rcases List.mem_cons.1 hz with rfl | hz
        · exact hg
        · exact bytesLt_trans hg (h1.1 z hz)
theorem insN_split (g : By) : ∀ {l : List By} {n : Nat}, n ≤ l.length → (∀ j, j < n → bytesLt (l.getD j []) g = true) → insN g l = l.take n ++ insN g (l.drop n)
  | l, 0, _, _ => by simp
  | [], n + 1, h, _ => by simp at h
  | x :: r, n + 1, h, hl => by
    have h0 := hl 0 (by omega)
    simp only [List.getD_cons_zero] at h0
    rw [insN, if_pos h0, List.take_succ_cons, List.drop_succ_cons, List.cons_append, insN_split g (by simpa using h) (fun j hj => by simpa using hl (j + 1) (by omega))]
theorem insN_len (g : By) : ∀ l : List By, (insN g l).length ≤ l.length + 1
  | [] => Nat.le_refl _
  | x :: r => by
    have := insN_len g r
    unfold insN
    split
    · simp; omega
    · split <;> simp
def refG : List Cu → List By → List By
  | [], out => out
  | v :: r, out => refG r (insN v.g out)
theorem refG_spec : ∀ (l : List Cu) {out : List By}, SU out → SU (refG l out) ∧ ∀ z, z ∈ refG l out ↔ z ∈ out ∨ ∃ v ∈ l, v.g = z
  | [], out, h => ⟨h, fun z => by simp [refG]⟩
  | v :: r, out, h => by
    obtain ⟨h1, h2⟩ := refG_spec r (insN_su v.g h)
    refine ⟨h1, fun z => ?_⟩
    rw [refG, h2, insN_mem]
    constructor
    · rintro ((h | h) | ⟨u, hu, e⟩)
      · exact .inr ⟨v, by simp, h.symm⟩
      · exact .inl h
      · exact .inr ⟨u, by simp [hu], e⟩
    · rintro (h | ⟨u, hu, e⟩)
      · exact .inl (.inr h)
      · rcases List.mem_cons.1 hu with rfl | hu
        · exact .inl (.inl e.symm)
        · exact .inr ⟨u, hu, e⟩
def grpR (l : List Cu) : List By × Int := if validC l then (refG l [], 0) else ([], 2)
def namesR (p : List By × Int) : List AV × List Blk := ([.fresh false [.str] (encB p.1), .p (.int .i64 p.2)], [])
def SortS (X : Ext) : Prop := ∀ l : List By, l.length ≤ 100000 → ∃ s : List By, s.Perm l ∧ (s.Pairwise fun a b => bytesLt b a = false) ∧ run tab X 62 [.slice 100000 1 0 l.length] [.arr false [.str] (encB l)] = some ([], [.arr false [.str] (encB s)])
section
variable (X : Ext) (hX : Mine X)
theorem c29_loop (a b : List By) (hab : a.length = b.length) (hl : a.length ≤ maxLen) : ∀ (n i : Nat), i + n = a.length →
    L tab (run tab X) 29 [] [.lp [1, 1, 0, 1, 0]] (S29_11010 (encB a) (encB b) i) = some ([.p (.bool (decide (a.drop i = b.drop i)))], []) := by
  have hm : (maxLen : Int) = 9223372036854775807 := by decide
  intro n
  induction n with
  | zero =>
    intro i hi
    refine L_of ?_
    rw [e29_11010]
    simp only [condD, encB_length]
    rw [if_neg (by omega), List.drop_eq_nil_of_le (by omega), List.drop_eq_nil_of_le (by omega)]
    rfl
  | succ n ih =>
    intro i hi
    have w : IntKind.i64.wrap ((i : Int) + 1) = ((i + 1 : Nat) : Int) := by rw [wrap_eq (by omega) (by omega)]; omega
    have ha : a.drop i = a.getD i [] :: a.drop (i + 1) := by
      rw [List.drop_eq_getElem_cons (by omega)]; simp [List.getD_eq_getElem?_getD, show i < a.length by omega]
    have hb : b.drop i = b.getD i [] :: b.drop (i + 1) := by
      rw [List.drop_eq_getElem_cons (by omega)]; simp [List.getD_eq_getElem?_getD, show i < b.length by omega]
    refine L_of ?_
    rw [e29_11010, ha, hb]
    simp only [condD, condA, condO, encB_length, Int.toNat_natCast, encB_s, ba_beq, ba_dec, w, ih (i + 1) (by omega)]
    rw [if_pos (by omega), if_pos (by omega), if_pos (by omega), if_pos (by omega), if_pos (by omega)]
    by_cases h : a.getD i [] = b.getD i []
    · refine iteP h ?_
      simp only [h, List.cons.injEq, true_and]
    · refine iteN h ?_
      simp only [h, List.cons.injEq, false_and, decide_false]
include hX
theorem c29 (a b : List By) (ha : a.length ≤ maxLen) : run tab X 29 [.p (.list false [.str] (encB a)), .p (.list false [.str] (encB b))] [] = some ([.p (.bool (decide (a = b)))], []) :=
  run_of (hX _ rfl) (by
    rw [e29, encB_length, encB_length]
    simp only [condN]
    by_cases h : a.length = b.length
    · rw [if_pos (by omega)]
      exact c29_loop X a b h ha a.length 0 (by omega)
    · rw [if_neg (by omega)]
      have : ¬ a = b := fun e => h (by rw [e])
      simp [this])
theorem c25_loop (hO : SortS X) (l : List Cu) (hl : l.length ≤ 100000) : ∀ (n i : Nat), i + n = l.length →
    L tab (run tab X) 25 [] [.lp [1, 1, 1, 0, 1, 0]] (S25_111010 0 i (encU l) l.length i (encB ((l.take i).map (·.g)))) = some (namesR (refG l [], 0)) := by
  intro n
  induction n with
  | zero =>
    intro i hi
    have hi' : i = l.length := by omega
    subst hi'
    rw [List.take_length]
    have hlen : (l.map (·.g)).length = l.length := by simp
    obtain ⟨s, s1, s2, s3⟩ := hO (l.map (·.g)) (by omega)
    have hs : s.length = l.length := by rw [s1.length_eq, hlen]
    rw [hlen] at s3
    obtain ⟨blk, g1, g2⟩ := c63 X hX s (by omega)
    rw [hs] at g1 g2
    refine L_of ?_
    rw [e25_111010]
    simp only [condD]
    rw [if_neg (by omega)]
    refine bindS s3 ?_
    simp only [List.headD_cons, xs_arr]
    refine bindS g1 ?_
    simp only [List.headD_cons, xs_arr, sOff_slice, sLen_slice, List.drop_zero]
    rw [g2]
    have e : cp s l.length = refG l [] := by
      obtain ⟨r1, r2⟩ := refG_spec l (out := []) (by simp [SU])
      refine su_ext (hs ▸ cp_su s2 s.length (Nat.le_refl _)) r1 fun z => ?_
      rw [r2, ← hs, cp_mem s z s.length (Nat.le_refl _)]
      simp only [List.not_mem_nil, false_or]
      constructor
      · rintro ⟨j, hj, e⟩
        have : z ∈ s := by
          rw [← e, List.getD_eq_getElem?_getD, List.getElem?_eq_getElem hj]; exact List.getElem_mem hj
        have := s1.mem_iff.1 this
        obtain ⟨v, hv, e⟩ := List.mem_map.1 this
        exact ⟨v, hv, e⟩
      · rintro ⟨v, hv, e⟩
        have : z ∈ s := s1.mem_iff.2 (List.mem_map.2 ⟨v, hv, e⟩)
        obtain ⟨j, hj, e⟩ := List.getElem_of_mem this
        exact ⟨j, hj, by rw [List.getD_eq_getElem?_getD, List.getElem?_eq_getElem hj]; exact e⟩
    rw [e]; rfl
  | succ n ih =>
    intro i hi
    have hlt : i < l.length := by omega
    have w : IntKind.i64.wrap ((i : Int) + 1) = ((i + 1 : Nat) : Int) := by rw [wrap_eq (by omega) (by omega)]; omega
    have ih' := ih (i + 1) (by omega)
    have e : (l.take (i + 1)).map (·.g) = (l.take i).map (·.g) ++ [(l.getD i default).g] := by
      rw [List.take_add_one, List.getElem?_eq_getElem hlt, List.map_append]
      simp [List.getD_eq_getElem?_getD, hlt]
    rw [e, ← encB_append] at ih'
    refine L_of ?_
    rw [e25_111010]
    simp only [condD, condA, encU_length, Int.toNat_natCast, encU_g, w, List.drop_zero]
    rw [if_pos (by omega), if_pos (by omega), if_pos (by omega), if_pos (by omega), List.take_of_length_le (by simp; omega)]
    exact ih'
theorem c25 (hT : Texts X) (hO : SortS X) (l : List Cu) (hn : Nam l) (hl : l.length ≤ 100000) : run tab X 25 [.p (.list true kC (encU l))] [] = some (namesR (grpR l)) := by
  have hm : maxLen = 9223372036854775807 := by decide
  refine run_of (hX _ rfl) ?_
  rw [e25, c22 X hX hT.cmp l hn (by omega)]
  simp only [Option.bind_some, List.headD_cons, pv_p, toBool_bool, condO, encU_length]
  unfold grpR
  cases hv : validC l with
  | false => rfl
  | true => exact c25_loop X hX hO l hl l.length 0 (by omega)
end
end Go.Skm.Cue
