/-
  A machine that runs this program's functions on pure values, and the proof that what it returns is true of the program; no condition beside the hypotheses of each.
-/
import Derived.Test.YthdegeidcjdkeaaSkmC
import Derived.ProofKit
/-
  From a call of the machine to a row's statement: arguments read as data are pure values, and read as before behind the call; condition: the types of the arguments are numbers, bools, strings, and slices, structs, arrays of these.
-/
namespace Go.Skm
open Go.ChangeShapes Go.WideShapes

mutual
/-- A pure value that a Go value of its type can be: numbers in range, no list or string too long. -/
def PV.wf : PV → Prop
  | .int k n => (Lit.int k n).wf = true
  | .str s => s.size ≤ maxLen
  | .list _ _ xs => xs.length ≤ maxLen ∧ PV.wfs xs
  | .agg cs => PV.wfs cs
  | .nil => False
  | _ => True
def PV.wfs : List PV → Prop
  | [] => True
  | v :: r => PV.wf v ∧ PV.wfs r
end
theorem wfs_mem : ∀ {l : List PV}, PV.wfs l ↔ ∀ v ∈ l, v.wf
  | [] => by simp [PV.wfs]
  | v :: r => by simp [PV.wfs, wfs_mem]

section
variable (P : Program)
/-- A type whose values the machine takes as arguments. -/
def argT : Nat → TypeId → Bool
  | 0, _ => false
  | n + 1, t =>
    match P.underlying t with
    | some (.int _) => Nat.beq (P.cellsOf t) 1
    | some .bool => Nat.beq (P.cellsOf t) 1
    | some .string => Nat.beq (P.cellsOf t) 1
    | some (.slice e) => argT n e && (Nat.blt 0 (P.cellsOf e) && Nat.beq (P.cellsOf t) 1)
    | some (.struct fs) => go n 0 fs.toList && Nat.beq (P.cellsOf t) (sum fs.toList)
    | some (.array m e) => argT n e && Nat.beq (P.cellsOf t) (m * P.cellsOf e)
    | _ => false
where
  go (n : Nat) : Nat → List Field → Bool
  | _, [] => true
  | o, f :: r => f.offset == o && (argT n f.type && go n (o + P.cellsOf f.type) r)
  sum : List Field → Nat
  | [] => 0
  | f :: r => P.cellsOf f.type + sum r
end

section
variable {H : Type} {enc : TypeId × Value → H} {P : Program} {w : World} {base : Nat} {sp : Nat → Bool} {held : Bool} {M : Nat → Prop}

theorem argT_len : ∀ {n : Nat} {t : TypeId}, argT P n t = true → (shapeP P n t).2.length = P.cellsOf t
  | 0, t, h => by simp [argT] at h
  | n + 1, t, h => by
    unfold argT at h
    unfold shapeP
    split at h
    · rename_i k hu; rw [hu]; simpa using (Nat.eq_of_beq_eq_true h).symm
    · rename_i hu; rw [hu]; simpa using (Nat.eq_of_beq_eq_true h).symm
    · rename_i hu; rw [hu]; simpa using (Nat.eq_of_beq_eq_true h).symm
    · rename_i e hu
      rw [hu]
      simp only [Bool.and_eq_true] at h
      simpa using (Nat.eq_of_beq_eq_true h.2.2).symm
    · rename_i fs hu
      rw [hu]
      simp only [Bool.and_eq_true] at h
      rw [Nat.eq_of_beq_eq_true h.2]
      have : ∀ (l : List Field) (o : Nat), argT.go P n o l = true → (l.flatMap fun f => (shapeP P n f.type).2).length = argT.sum P l := by
        intro l
        induction l with
        | nil => intro o _; rfl
        | cons f r ih =>
          intro o h
          simp only [argT.go, Bool.and_eq_true] at h
          simp only [List.flatMap_cons, List.length_append, argT.sum, argT_len h.2.1, ih _ h.2.2]
      exact this _ _ h.1
    · rename_i m e hu
      rw [hu]
      simp only [Bool.and_eq_true] at h
      simp only [List.length_flatten, List.map_replicate, List.sum_replicate_nat, argT_len h.1]
      exact (Nat.eq_of_beq_eq_true h.2).symm
    · cases h

/-- A value's cells, as pure ones. -/
def ArgR (w : World) (M : Nat → Prop) (ks : List Kd) (cs : List Value) (ps : List PV) : Prop :=
  kindsOk ks ps = true ∧ ps.length = cs.length ∧ (∀ (i : Nat) (p : PV), ps[i]? = some p → VR w M p (cs.getD i undef)) ∧ PV.wfs ps

theorem kindsOk_append : ∀ {k1 k2 : List Kd} {p1 p2 : List PV}, kindsOk k1 p1 = true → kindsOk k2 p2 = true → kindsOk (k1 ++ k2) (p1 ++ p2) = true
  | [], k2, [], p2, _, h => h
  | k :: k1, k2, v :: p1, p2, h1, h2 => by
    simp only [kindsOk, Bool.and_eq_true] at h1
    simp only [List.cons_append, kindsOk, Bool.and_eq_true]
    exact ⟨h1.1, kindsOk_append h1.2 h2⟩
  | [], _, _ :: _, _, h, _ => by simp [kindsOk] at h
  | _ :: _, _, [], _, h, _ => by simp [kindsOk] at h
theorem ArgR.append {k1 k2 : List Kd} {c1 c2 : List Value} {p1 p2 : List PV} (h1 : ArgR w M k1 c1 p1) (h2 : ArgR w M k2 c2 p2) : ArgR w M (k1 ++ k2) (c1 ++ c2) (p1 ++ p2) := by
  refine ⟨kindsOk_append h1.1 h2.1, by simp [h1.2.1, h2.2.1], fun i p hp => ?_, ?_⟩
  · by_cases hi : i < p1.length
    · rw [List.getElem?_append_left hi] at hp
      have := h1.2.2.1 i p hp
      rw [List.getD_eq_getElem?_getD] at this ⊢
      rwa [List.getElem?_append_left (by rw [← h1.2.1]; exact hi)]
    · rw [List.getElem?_append_right (by omega)] at hp
      have := h2.2.2.1 _ p hp
      rw [List.getD_eq_getElem?_getD] at this ⊢
      rwa [List.getElem?_append_right (by rw [← h1.2.1]; omega), ← h1.2.1]
  · rw [wfs_mem] at *
    have a := wfs_mem.1 h1.2.2.2
    have b := wfs_mem.1 h2.2.2.2
    intro v hv
    rcases List.mem_append.1 hv with hv | hv
    · exact a v hv
    · exact b v hv

/-- Cells, read as an element of a slice. -/
def elemPV (a : Bool) (ps : List PV) : PV := match a with | true => .agg ps | false => ps.headD .nil
theorem shapeP_one {n : Nat} {t : TypeId} (h : argT P n t = true) (ha : (shapeP P n t).1 = false) : (shapeP P n t).2.length = 1 := by
  cases n with
  | zero => simp [argT] at h
  | succ n =>
    unfold argT at h
    unfold shapeP at ha ⊢
    split at h <;> rename_i hu <;> first | (simp only [hu] at ha ⊢; done) | skip
    all_goals (try (simp only [hu] at ha ⊢; rfl))
    all_goals (simp only [hu] at ha)
    all_goals (cases ha)
theorem arg_elem_ok {n : Nat} {t : TypeId} {cs : List Value} {ps : List PV} (h : argT P n t = true) (hc : ArgR w M (shapeP P n t).2 cs ps) :
    shapeOk (shapeP P n t).1 (shapeP P n t).2 (elemPV (shapeP P n t).1 ps) = true ∧ (elemPV (shapeP P n t).1 ps).cells = ps ∧ (elemPV (shapeP P n t).1 ps).wf := by
  cases ha : (shapeP P n t).1 with
  | true => exact ⟨hc.1, rfl, by simp only [elemPV, PV.wf]; exact hc.2.2.2⟩
  | false =>
    have h1 := shapeP_one h ha
    have hk := hc.1
    match hks : (shapeP P n t).2, h1, hk with
    | [k], _, hk =>
      match ps, hk, hc with
      | [p], hk, hc =>
        simp only [kindsOk, Bool.and_true] at hk
        have hl := kindOk_leaf hk
        refine ⟨hk, ?_, ?_⟩
        · simp only [elemPV, List.headD_cons]
          cases p <;> first | rfl | simp [PV.leaf] at hl
        · exact (wfs_mem.1 hc.2.2.2) p (by simp)
      | [], hk, _ => simp [kindsOk] at hk
      | _ :: _ :: _, hk, _ => simp [kindsOk] at hk

theorem spot_of_cells {a : Addr} {n i : Nat} {v : Value} (h : w.cell? (a.add i) = some v) (hi : i < n) (h0 : i = 0) : a.spot = none := by
  subst h0
  simp only [Addr.add, if_true] at h
  unfold World.cell? at h
  split at h
  · cases hs : a.spot with
    | none => rfl
    | some s => rw [hs] at h; simp at h
  · cases h

theorem cells?_get {a : Addr} {n : Nat} {cs : List Value} (h : w.cells? base a n = some cs) : cs.length = n ∧ ∀ i, i < n → ∃ v, cs[i]? = some v ∧ w.cell? (a.add i) = some v := by
  unfold World.cells? at h
  split at h
  · have hl := mapM_some_length h
    simp at hl
    refine ⟨hl, fun i hi => ?_⟩
    have := mapM_some_get h i i (by simp [hi])
    have hlt : i < cs.length := by omega
    rw [List.getElem?_eq_getElem hlt] at this
    exact ⟨cs[i], by simp, this⟩
  · cases h

/-- What reads as data is a pure value. -/
theorem trod_pure (hM : ∀ b, b < w.heap.size → M b) : ∀ (fuel n : Nat) (t : TypeId) (cs : List Value) (x : DataW H × List MemPlace), DataW.trod enc P w base sp held fuel t cs = some x → argT P n t = true → ∃ ps, ArgR w M (shapeP P n t).2 cs ps := by
  intro fuel
  induction fuel with
  | zero => intro n t cs x h; simp [DataW.trod] at h
  | succ fuel ih =>
    intro n t cs x h ha
    cases n with
    | zero => simp [argT] at ha
    | succ n =>
      unfold argT at ha
      have one : ∀ (k : Kd) (p : PV) (v : Value), kindOk k p = true → VR w M p v → p.wf → ArgR w M [k] [v] [p] := by
        intro k p v h1 h2 h3
        refine ⟨by simp [kindsOk, h1], rfl, fun i q hq => ?_, by simp [PV.wfs, h3]⟩
        cases i with
        | zero => simp at hq; subst hq; simpa using h2
        | succ i => simp at hq
      split at ha
      · rename_i k hu
        obtain ⟨m, rfl, _, hw⟩ := DataW.trod_int hu h
        have e : (shapeP P (n + 1) t).2 = [.int k] := by (conv => lhs; unfold shapeP); rw [hu]
        rw [e]
        exact ⟨_, one _ (.int k m) _ (by simp [kindOk]) (.int k m) hw⟩
      · rename_i hu
        obtain ⟨b, rfl, _⟩ := DataW.trod_bool hu h
        have e : (shapeP P (n + 1) t).2 = [.bool] := by (conv => lhs; unfold shapeP); rw [hu]
        rw [e]
        exact ⟨_, one _ (.bool b) _ rfl (.bool b) trivial⟩
      · rename_i hu
        obtain ⟨s, rfl, _, hw⟩ := DataW.trod_string hu h
        have e : (shapeP P (n + 1) t).2 = [.str] := by (conv => lhs; unfold shapeP); rw [hu]
        rw [e]
        exact ⟨_, one _ (.str s) _ rfl (.str s) hw⟩
      · -- a slice
        rename_i e hu
        simp only [Bool.and_eq_true] at ha
        have es : (shapeP P (n + 1) t).2 = [.slice (shapeP P n e).1 (shapeP P n e).2] := by (conv => lhs; unfold shapeP); rw [hu]
        rw [es]
        have hpos : 0 < P.cellsOf e := Nat.le_of_ble_eq_true ha.2.1
        have hlen := argT_len ha.1
        rcases DataW.trod_slice hu h with ⟨rfl, _⟩ | ⟨a, len, cap, elems, rest, m, hm, rfl, _, hb, hlc, hcm, hel, hget, _, _⟩
        · exact ⟨_, one _ (.list (shapeP P n e).1 (shapeP P n e).2 []) _ (by simp [kindOk, Kd.beqs_refl]) (.listE _ _ none 0) (by simp [PV.wf, PV.wfs])⟩
        · cases hm
          have good : ∀ i, i < len → ∃ (ps : List PV) (csi : List Value), w.cells? base (a.add (i * P.cellsOf e)) (P.cellsOf e) = some csi ∧ ArgR w M (shapeP P n e).2 csi ps := by
            intro i hi
            have h1 := hget i hi
            rw [List.getElem?_eq_getElem (by omega)] at h1
            simp only [Option.bind_eq_some_iff] at h1
            obtain ⟨csi, h2, h3⟩ := h1
            obtain ⟨ps, h4⟩ := ih n e csi _ h3 ha.1
            exact ⟨ps, csi, h2, h4⟩
          by_cases h0 : len = 0
          · subst h0
            exact ⟨_, one _ (.list (shapeP P n e).1 (shapeP P n e).2 []) _ (by simp [kindOk, Kd.beqs_refl]) (.listE _ _ (some a) cap) (by simp [PV.wf, PV.wfs])⟩
          · have hspot : a.spot = none := by
              obtain ⟨ps, csi, h2, _⟩ := good 0 (by omega)
              obtain ⟨_, h3⟩ := cells?_get h2
              obtain ⟨v, _, h4⟩ := h3 0 hpos
              simp only [Nat.zero_mul] at h4
              have e0 : a.add 0 = a := by simp [Addr.add]
              rw [e0] at h4
              exact spot_of_cells h4 hpos rfl
            have addr : ∀ i j, (a.add (i * P.cellsOf e)).add j = ⟨a.block, a.off + i * P.cellsOf e + j, none⟩ := by
              intro i j
              obtain ⟨ab, ao, as⟩ := a
              simp only at hspot
              subst hspot
              unfold Addr.add
              by_cases h1 : i * P.cellsOf e = 0 <;> by_cases h2 : j = 0 <;> simp [h1, h2]
            have hex : ∃ (f : Nat → List PV) (g : Nat → List Value), ∀ i, i < len → w.cells? base (a.add (i * P.cellsOf e)) (P.cellsOf e) = some (g i) ∧ ArgR w M (shapeP P n e).2 (g i) (f i) :=
              ⟨fun i => if h : i < len then (good i h).choose else [], fun i => if h : i < len then (good i h).choose_spec.choose else [], fun i hi => by
                simp only [dif_pos hi]; exact (good i hi).choose_spec.choose_spec⟩
            obtain ⟨f, g, hfg⟩ := hex
            have hblk : a.block < w.heap.size := by
              obtain ⟨h2, _⟩ := hfg 0 (by omega)
              obtain ⟨_, h3⟩ := cells?_get h2
              obtain ⟨v, _, h4⟩ := h3 0 hpos
              rw [addr] at h4
              unfold World.cell? at h4
              simp only at h4
              rcases Nat.lt_or_ge a.block w.heap.size with h' | h'
              · exact h'
              · rw [Array.getElem?_eq_none h'] at h4; cases h4
            have hxs : ∀ (i : Nat) (x : PV), ((List.range len).map fun i => elemPV (shapeP P n e).1 (f i))[i]? = some x → i < len ∧ x = elemPV (shapeP P n e).1 (f i) := by
              intro i x hx
              simp only [List.getElem?_map, Option.map_eq_some_iff] at hx
              obtain ⟨j, hj, rfl⟩ := hx
              have hi : i < len := by simpa using (List.getElem?_eq_some_iff.1 hj).1
              rw [List.getElem?_range hi] at hj
              cases hj
              exact ⟨hi, rfl⟩
            refine ⟨[.list (shapeP P n e).1 (shapeP P n e).2 ((List.range len).map fun i => elemPV (shapeP P n e).1 (f i))], one _ _ _ (by simp [kindOk, Kd.beqs_refl]) ?_ ?_⟩
            · have := VR.list (w := w) (M := M) (shapeP P n e).1 (shapeP P n e).2 ((List.range len).map fun i => elemPV (shapeP P n e).1 (f i)) a.block a.off cap (fun i j => (g i).getD j undef) (hM _ hblk) (by simpa using hlc)
                (fun i x j c hx hj => by
                  obtain ⟨hi, rfl⟩ := hxs i x hx
                  obtain ⟨h2, h3⟩ := hfg i hi
                  rw [(arg_elem_ok ha.1 h3).2.1] at hj
                  obtain ⟨hl, h4⟩ := cells?_get h2
                  have hjl : j < P.cellsOf e := by
                    have := (List.getElem?_eq_some_iff.1 hj).1
                    rw [h3.2.1, hl] at this; exact this
                  obtain ⟨v, h5, h6⟩ := h4 j hjl
                  rw [addr] at h6
                  rw [hlen, h6, List.getD_eq_getElem?_getD, h5]; rfl)
                (fun i x j c hx hj => by
                  obtain ⟨hi, rfl⟩ := hxs i x hx
                  obtain ⟨h2, h3⟩ := hfg i hi
                  rw [(arg_elem_ok ha.1 h3).2.1] at hj
                  exact h3.2.2.1 j c hj)
                (fun x hx => by
                  obtain ⟨i, hi⟩ := List.mem_iff_getElem?.1 hx
                  obtain ⟨hi', rfl⟩ := hxs i x hi
                  exact (arg_elem_ok ha.1 (hfg i hi').2).1)
              have ea : a = ⟨a.block, a.off, none⟩ := by cases a; simp at hspot; simp [hspot]
              rw [List.length_map, List.length_range] at this
              rw [ea]; exact this
            · refine ⟨by simpa using Nat.le_trans hlc hcm, wfs_mem.2 fun x hx => ?_⟩
              obtain ⟨i, hi⟩ := List.mem_iff_getElem?.1 hx
              obtain ⟨hi', rfl⟩ := hxs i x hi
              exact (arg_elem_ok ha.1 (hfg i hi').2).2.2
      · -- a struct
        rename_i fs hu
        simp only [Bool.and_eq_true] at ha
        have es : (shapeP P (n + 1) t).2 = fs.toList.flatMap fun f => (shapeP P n f.type).2 := by (conv => lhs; unfold shapeP); rw [hu]
        rw [es]
        obtain ⟨xs, m, hm, _, hl, hxl, hget⟩ := DataW.trod_struct hu h
        cases hm
        have htot := Nat.eq_of_beq_eq_true ha.2
        have key : ∀ (l : List Field) (o : Nat), argT.go P n o l = true → (∀ f ∈ l, ∃ y, DataW.trod enc P w base sp held fuel f.type ((cs.drop f.offset).take (P.cellsOf f.type)) = some y) → o + argT.sum P l = cs.length →
            ∃ ps, ArgR w M (l.flatMap fun f => (shapeP P n f.type).2) (cs.drop o) ps := by
          intro l
          induction l with
          | nil =>
            intro o _ _ ho
            simp only [argT.sum, Nat.add_zero] at ho
            refine ⟨[], rfl, ?_, fun i p h => by simp at h, trivial⟩
            simp [ho]
          | cons f r ihl =>
            intro o hg hm ho
            simp only [argT.go, Bool.and_eq_true, beq_iff_eq] at hg
            obtain ⟨hoff, hf, hr⟩ := hg
            obtain ⟨y, hy⟩ := hm f (by simp)
            rw [hoff] at hy
            obtain ⟨p1, h1⟩ := ih n f.type _ y hy hf
            simp only [argT.sum] at ho
            obtain ⟨p2, h2⟩ := ihl (o + P.cellsOf f.type) hr (fun g hg => hm g (by simp [hg])) (by omega)
            refine ⟨p1 ++ p2, ?_⟩
            have := h1.append h2
            rw [← List.drop_drop] at this
            rwa [List.take_append_drop] at this
        obtain ⟨ps, hps⟩ := key fs.toList 0 ha.1 (fun f hf => by
          obtain ⟨i, hi⟩ := List.mem_iff_getElem?.1 hf
          have hi' : fs[i]? = some f := by simpa using hi
          have hlt : i < xs.length := by rw [hxl]; exact (Array.getElem?_eq_some_iff.1 hi').1
          exact ⟨xs[i], by rw [hget i f hi', List.getElem?_eq_getElem hlt]⟩) (by rw [Nat.zero_add, hl, htot])
        exact ⟨ps, by simpa using hps⟩
      · -- an array
        rename_i m e hu
        simp only [Bool.and_eq_true] at ha
        have es : (shapeP P (n + 1) t).2 = (List.replicate m (shapeP P n e).2).flatten := by (conv => lhs; unfold shapeP); rw [hu]
        rw [es]
        have h' : (if cs.length = P.cellsOf t then ((List.range m).mapM fun i => DataW.trod enc P w base sp held fuel e ((cs.drop (i * P.cellsOf e)).take (P.cellsOf e))).map fun xs => ((.agg (xs.map (·.1)) : DataW H), xs.flatMap (·.2)) else none) = some x := by
          rw [← h, DataW.trod_step]
          unfold DataW.trodStep
          rw [hu]
        clear h
        split at h'
        · rename_i hl
          simp only [Option.map_eq_some_iff] at h'
          obtain ⟨xs, hxs, rfl⟩ := h'
          have htot := Nat.eq_of_beq_eq_true ha.2
          have hel : ∀ i, i < m → ∃ ps, ArgR w M (shapeP P n e).2 ((cs.drop (i * P.cellsOf e)).take (P.cellsOf e)) ps := by
            intro i hi
            have h1 := mapM_some_get hxs i i (by simp [hi])
            have hl := mapM_some_length hxs
            simp at hl
            rw [List.getElem?_eq_getElem (by omega)] at h1
            exact ih n e _ _ h1 ha.1
          have key : ∀ (k : Nat), k ≤ m → ∃ ps, ArgR w M (List.replicate k (shapeP P n e).2).flatten (cs.drop ((m - k) * P.cellsOf e)) ps := by
            intro k
            induction k with
            | zero =>
              intro _
              refine ⟨[], rfl, ?_, fun i p h => by simp at h, trivial⟩
              simp [hl, htot]
            | succ k ihk =>
              intro hk
              obtain ⟨p2, h2⟩ := ihk (by omega)
              obtain ⟨p1, h1⟩ := hel (m - (k + 1)) (by omega)
              refine ⟨p1 ++ p2, ?_⟩
              have := h1.append h2
              rw [List.replicate_succ, List.flatten_cons]
              have e1 : m - k = m - (k + 1) + 1 := by omega
              rw [e1, Nat.add_mul, Nat.one_mul, ← List.drop_drop, List.take_append_drop] at this
              exact this
          obtain ⟨ps, hps⟩ := key m (Nat.le_refl m)
          exact ⟨ps, by simpa using hps⟩
        · cases h'
      · cases ha

theorem sameAt_of {w w' : World} (hb : ∀ b, b < w.heap.size → w'.heap[b]? = w.heap[b]?) {p : MemPlace} (hp : p.block < w.heap.size) : w.sameAt w' p := by
  cases p with
  | cell b off => simp only [World.sameAt, World.cell?]; rw [hb b hp]
  | map b => exact hb b hp

/-- Which spare places are read does not matter where all places that are read are among them. -/
theorem trod_spare : ∀ (fuel n : Nat) (t : TypeId) (cs : List Value) (x : DataW H × List MemPlace), DataW.trod enc P w base (fun _ => true) held fuel t cs = some x → argT P n t = true → (∀ p ∈ x.2, sp p.block = true) → DataW.trod enc P w base sp held fuel t cs = some x := by
  intro fuel
  induction fuel with
  | zero => intro n t cs x h; simp [DataW.trod] at h
  | succ fuel ih =>
    intro n t cs x h ha hs
    cases n with
    | zero => simp [argT] at ha
    | succ n =>
      unfold argT at ha
      split at ha
      · rename_i k hu
        obtain ⟨m, rfl, rfl, hw⟩ := DataW.trod_int hu h
        rw [DataW.trod_step]; simp [DataW.trodStep, hu, hw]
      · rename_i hu
        obtain ⟨b, rfl, rfl⟩ := DataW.trod_bool hu h
        rw [DataW.trod_step]; simp [DataW.trodStep, hu]
      · rename_i hu
        obtain ⟨s, rfl, rfl, hw⟩ := DataW.trod_string hu h
        rw [DataW.trod_step]; simp [DataW.trodStep, hu, hw]
      · rename_i e hu
        simp only [Bool.and_eq_true] at ha
        have hpos : 0 < P.cellsOf e := Nat.le_of_ble_eq_true ha.2.1
        rcases DataW.trod_slice hu h with ⟨rfl, rfl⟩ | ⟨a, len, cap, elems, rest, m, hm, rfl, rfl, hb, hlc, hcm, hel, hget, hrest, _⟩
        · rw [DataW.trod_step]; simp [DataW.trodStep, hu]
        · cases hm
          obtain ⟨hrl, hrg⟩ := hrest rfl
          rw [DataW.trod_step] at h ⊢
          unfold DataW.trodStep at h ⊢
          rw [hu] at h ⊢
          simp only [hb, hlc, hcm, and_self, if_true, Option.bind_eq_some_iff, Option.map_eq_some_iff] at h ⊢
          obtain ⟨el, he, rs, hr, hd⟩ := h
          have hall : ∀ y ∈ el ++ rs, ∀ p ∈ y.2, sp p.block = true := by
            intro y hy p hp
            refine hs p ?_
            rw [← (Prod.mk.inj hd).2]
            exact List.mem_append.2 (.inr (List.mem_flatMap.2 ⟨y, hy, hp⟩))
          refine ⟨el, mapM_carry he fun i y hi hy hf => ?_, rs, ?_, hd⟩
          · simp only [Option.bind_eq_some_iff] at hf ⊢
            obtain ⟨cs', h1, h2⟩ := hf
            exact ⟨cs', h1, ih n e cs' y h2 ha.1 (hall y (by simp [hy]))⟩
          · split
            · refine mapM_carry hr fun i y hi hy hf => ?_
              simp only [Option.bind_eq_some_iff] at hf ⊢
              obtain ⟨cs', h1, h2⟩ := hf
              exact ⟨cs', h1, ih n e cs' y h2 ha.1 (hall y (by simp [hy]))⟩
            · rename_i hsp
              by_cases hz : rs = []
              · rw [hz]
              · exfalso
                refine hsp (hs (.cell a.block a.off) ?_)
                rw [← (Prod.mk.inj hd).2]
                refine List.mem_append.2 (.inl (MemPlace.mem_row.2 ⟨0, ?_, by simp⟩))
                have : 0 < rs.length := List.length_pos_iff.2 hz
                exact Nat.mul_pos (by omega) hpos
      · rename_i fs hu
        simp only [Bool.and_eq_true] at ha
        obtain ⟨xs, m, hm, rfl, hl, hxl, hget⟩ := DataW.trod_struct hu h
        cases hm
        have h' : (if cs.length = P.cellsOf t then (fs.toList.mapM fun f => DataW.trod enc P w base (fun _ => true) held fuel f.type ((cs.drop f.offset).take (P.cellsOf f.type))).map fun xs => ((.agg (xs.map (·.1)) : DataW H), xs.flatMap (·.2)) else none) = some (.agg (xs.map (·.1)), xs.flatMap (·.2)) := by
          rw [← h, DataW.trod_step]
          unfold DataW.trodStep
          rw [hu]
        rw [DataW.trod_step]
        unfold DataW.trodStep
        rw [hu]
        show (if cs.length = P.cellsOf t then (fs.toList.mapM fun f => DataW.trod enc P w base sp held fuel f.type ((cs.drop f.offset).take (P.cellsOf f.type))).map fun xs => ((.agg (xs.map (·.1)) : DataW H), xs.flatMap (·.2)) else none) = _
        rw [if_pos hl] at h' ⊢
        simp only [Option.map_eq_some_iff] at h' ⊢
        obtain ⟨ys, hy, hd⟩ := h'
        have hfs : ∀ (l : List Field) (o : Nat), argT.go P n o l = true → ∀ f ∈ l, argT P n f.type = true := by
          intro l
          induction l with
          | nil => intro o _ f hf; simp at hf
          | cons g r ihl =>
            intro o hg f hf
            simp only [argT.go, Bool.and_eq_true] at hg
            rcases List.mem_cons.1 hf with rfl | hf
            · exact hg.2.1
            · exact ihl _ hg.2.2 f hf
        refine ⟨ys, mapM_carry hy fun f y hf hy' h1 => ih n f.type _ y h1 (hfs _ _ ha.1 f hf) fun p hp => hs p ?_, hd⟩
        rw [← (Prod.mk.inj hd).2]
        exact List.mem_flatMap.2 ⟨y, hy', hp⟩
      · rename_i m e hu
        simp only [Bool.and_eq_true] at ha
        have h' : (if cs.length = P.cellsOf t then ((List.range m).mapM fun i => DataW.trod enc P w base (fun _ => true) held fuel e ((cs.drop (i * P.cellsOf e)).take (P.cellsOf e))).map fun xs => ((.agg (xs.map (·.1)) : DataW H), xs.flatMap (·.2)) else none) = some x := by
          rw [← h, DataW.trod_step]
          unfold DataW.trodStep
          rw [hu]
        rw [DataW.trod_step]
        unfold DataW.trodStep
        rw [hu]
        show (if cs.length = P.cellsOf t then ((List.range m).mapM fun i => DataW.trod enc P w base sp held fuel e ((cs.drop (i * P.cellsOf e)).take (P.cellsOf e))).map fun xs => ((.agg (xs.map (·.1)) : DataW H), xs.flatMap (·.2)) else none) = _
        split at h'
        · rename_i hl
          rw [if_pos hl]
          simp only [Option.map_eq_some_iff] at h' ⊢
          obtain ⟨ys, hy, hd⟩ := h'
          refine ⟨ys, mapM_carry hy fun i y hi hy' h1 => ih n e _ y h1 ha.1 fun p hp => hs p ?_, hd⟩
          rw [← hd]
          exact List.mem_flatMap.2 ⟨y, hy', hp⟩
        · cases h'
      · cases ha

/-- A law's arguments, as pure values. -/
inductive ArgsR (P : Program) (w : World) (M : Nat → Prop) : List TypeId → List Value → List PV → Prop
  | nil : ArgsR P w M [] [] []
  | cons (t : TypeId) (ts : List TypeId) (v : Value) (vs : List Value) (x : PV) (xs : List PV) (h1 : VR w M x v) (h2 : shapeOk (shapeP P 8 t).1 (shapeP P 8 t).2 x = true) (h3 : x.wf) (h : ArgsR P w M ts vs xs) : ArgsR P w M (t :: ts) (v :: vs) (x :: xs)

theorem arg_read {b0 : Nat} (hM : ∀ b, b < w.heap.size → M b) {t : TypeId} {v : Value} {d : DataW H} {ps : List MemPlace} (ha : argT P 8 t = true) (hok : Value.okWide P w .any b0 t v) (h : DataW.Trod enc P w base sp held t v d ps) :
    ∃ x, VR w M x v ∧ shapeOk (shapeP P 8 t).1 (shapeP P 8 t).2 x = true ∧ x.wf := by
  obtain ⟨fuel, h⟩ := h
  obtain ⟨qs, hq⟩ := trod_pure hM fuel 8 t _ _ h ha
  obtain ⟨e1, e2, e3⟩ := arg_elem_ok ha hq
  refine ⟨_, ?_, e1, e3⟩
  cases hs : (shapeP P 8 t).1 with
  | true =>
    have hagg : (∃ fs, P.underlying t = some (.struct fs)) ∨ ∃ m e, P.underlying t = some (.array m e) := by
      unfold shapeP at hs
      split at hs <;> first | (cases hs; done) | skip
      · exact .inl ⟨_, ‹_›⟩
      · exact .inr ⟨_, _, ‹_›⟩
    have hv : ∃ cs, v = .agg cs := by
      unfold Value.okWide at hok
      rcases hagg with ⟨fs, hu⟩ | ⟨m, e, hu⟩
      · rw [hu] at hok; obtain ⟨cs, rfl, _⟩ := hok; exact ⟨cs, rfl⟩
      · rw [hu] at hok; obtain ⟨cs, rfl, _⟩ := hok; exact ⟨cs, rfl⟩
    obtain ⟨cs, rfl⟩ := hv
    have hc : (Value.agg cs).cells.toList = cs.toList := rfl
    rw [hc] at hq
    refine .agg qs cs (by simpa using hq.2.1.symm) (fun c hc => ?_) fun i c hi => ?_
    · obtain ⟨j, hj⟩ := List.mem_iff_getElem?.1 hc
      have hk := kindsOk_get hq.1
      have hjl : j < (shapeP P 8 t).2.length := by rw [hk.1]; exact (List.getElem?_eq_some_iff.1 hj).1
      exact kindOk_leaf (hk.2 j _ c (List.getElem?_eq_getElem hjl) hj)
    · have := hq.2.2.1 i c hi
      rwa [List.getD_eq_getElem?_getD, Array.getElem?_toList, ← Array.getD_eq_getD_getElem?] at this
  | false =>
    have h1 := shapeP_one ha hs
    have hk := kindsOk_get hq.1
    match qs, hq, hk with
    | [q], hq, hk =>
      have hl : q.leaf = true := by
        refine kindOk_leaf (hk.2 0 ((shapeP P 8 t).2[0]'(by omega)) q (by simp) rfl)
      have hv : v.cells.toList = [v] := by
        have hl1 := hq.2.1
        cases v <;> first | rfl | skip
        rename_i cs
        exfalso
        unfold Value.okWide at hok
        split at hok
        · rename_i fs hu
          unfold shapeP at hs
          rw [hu] at hs
          cases hs
        · rename_i m e hu
          unfold shapeP at hs
          rw [hu] at hs
          cases hs
        · rename_i hns hna
          unfold argT at ha
          split at ha <;> rename_i hu <;> first | (cases ha; done) | skip
          · obtain ⟨m, hc, _⟩ := DataW.trod_int hu h
            simp [Value.cells] at hc
            unfold Cell.okWide Cell.ok at hok
            rw [hu] at hok
            simp at hok
          · unfold Cell.okWide Cell.ok at hok
            rw [hu] at hok
            simp at hok
          · unfold Cell.okWide Cell.ok at hok
            rw [hu] at hok
            simp at hok
          · unfold Cell.okWide Cell.ok at hok
            rw [hu] at hok
            simp at hok
          · exact hns _ hu
          · exact hna _ _ hu
      rw [hv] at hq
      simpa [elemPV] using hq.2.2.1 0 q rfl
    | [], hq, hk => have := hk.1; rw [h1] at this; simp at this
    | _ :: _ :: _, hq, hk => have := hk.1; rw [h1] at this; simp at this

theorem trodAll_later {w' : World} (hb : ∀ b, b < w.heap.size → w'.heap[b]? = w.heap[b]?) : ∀ {ts : List TypeId} {vs : List Value} {ds : List (DataW H)} {ps : List MemPlace}, DataW.TrodAll enc P w base (fun _ => true) held ts vs ds ps → (∀ t ∈ ts, argT P 8 t = true) →
    DataW.TrodAll enc P w' base (fun b => decide (b < w.heap.size)) held ts vs ds ps
  | [], [], [], ps, h, _ => h
  | t :: ts, v :: vs, d :: ds, ps, ⟨p, q, h1, h2, e⟩, ha => by
    refine ⟨p, q, ?_, trodAll_later hb h2 (fun u hu => ha u (by simp [hu])), e⟩
    obtain ⟨fuel, h1⟩ := h1
    have hlt := DataW.trod_lt _ _ _ _ h1
    exact ⟨fuel, trod_spare fuel 8 t _ _ (DataW.trod_carry fuel t _ _ h1 fun p hp => sameAt_of hb (hlt p hp)) (ha t (by simp)) fun p hp => by simpa using hlt p hp⟩
theorem args_read {b0 : Nat} (hM : ∀ b, b < w.heap.size → M b) : ∀ {ts : List TypeId} {vs : List Value} {ds : List (DataW H)} {ps : List MemPlace}, DataW.TrodAll enc P w base sp held ts vs ds ps → (∀ t ∈ ts, argT P 8 t = true) → (∀ (j : Nat) t v, ts[j]? = some t → vs[j]? = some v → Value.okWide P w .any b0 t v) →
    ∃ xs, ArgsR P w M ts vs xs
  | [], [], [], ps, _, _, _ => ⟨[], .nil⟩
  | t :: ts, v :: vs, d :: ds, ps, ⟨p, q, h1, h2, e⟩, ha, hv => by
    obtain ⟨xs, hxs⟩ := args_read hM h2 (fun u hu => ha u (by simp [hu])) fun j t v h1 h2 => hv (j + 1) t v (by simpa using h1) (by simpa using h2)
    obtain ⟨x, e1, e2, e3⟩ := arg_read hM (ha t (by simp)) (hv 0 t v rfl rfl) h1
    exact ⟨x :: xs, .cons t ts v vs x xs e1 e2 e3 hxs⟩

theorem ArgsR.length {ts : List TypeId} {vs : List Value} {xs : List PV} (h : ArgsR P w M ts vs xs) : xs.length = vs.length := by
  induction h with
  | nil => rfl
  | cons _ _ _ _ _ _ _ _ _ _ ih => simp [ih]
theorem ArgsR.get {ts : List TypeId} {vs : List Value} {xs : List PV} (h : ArgsR P w M ts vs xs) : ∀ (i : Nat) (x : PV), xs[i]? = some x → ∃ v, vs[i]? = some v ∧ VR w M x v := by
  induction h with
  | nil => intro i x h; simp at h
  | cons t ts v vs x xs h1 h2 h3 h ih =>
    intro i y hy
    cases i with
    | zero => simp at hy; subst hy; exact ⟨v, rfl, h1⟩
    | succ i => simp at hy; simpa using ih i y hy

/-- A law: the machine says true of all arguments: so it is. -/
theorem law_calls {T : Tab} (ok : TabOk P T) {X : Ext} (hX : ExtOk P T X) {f : Nat} {fi : FI} (hf : tlook T.funcs f = some fi) {fn : Func} (hfn : fi.fn = fn) {tb : TypeId} (hres : fn.resultTypes = #[tb]) (hrets : fi.cfg.rets = [])
    (hub : P.underlying tb = some .bool) {s : ChangeSpec} (hvars : s.vars = []) {W : World} {args : Array Value} {ds gs : List (DataW H)} {before : List MemPlace} {b0 : Nat}
    (hval : ∀ (j : Nat) t v, fn.params[j]? = some t → args[j]? = some v → Value.okWide P W .any b0 t v) (hW : DataW.Whole enc P fn.params.toList s.vars false W args.toList ds gs before)
    (hpar : fn.params.toList.all (argT P 8) = true) (hs : s.fn H ds = { results := [.lit (.bool true)], args := ds })
    (hrun : ∀ xs, ArgsR P W (fun b => b < W.heap.size) fn.params.toList args.toList xs → run T X f (xs.map .p) [] = some ([.p (.bool true)], [])) :
    Calls P f args W fun e W' => ∃ v, e = .returned v ∧ s.post enc P fn false true false false W args v W' := by
  subst hfn
  have hW0 := hW
  obtain ⟨p, q, hA, hV, hbef, hz, hn⟩ := hW
  have hall : ∀ t ∈ fi.fn.params.toList, argT P 8 t = true := fun t ht => List.all_eq_true.1 hpar t ht
  rw [hvars] at hV
  cases gs with
  | cons g gr => exact hV.elim
  | nil =>
    obtain ⟨xs, hxs⟩ := args_read (M := fun b => b < W.heap.size) (fun _ h => h) hA hall (base := 0) (fun j t v h1 h2 => by
      exact hval j t v (by simpa using h1) (by simpa using h2))
    have hsnd := run_sound ok hX f fi (xs.map .p) [] _ [] hf (hrun xs hxs)
    have hpre : CallPre W (fun b => b < W.heap.size) (fun _ => none) (xs.map .p) [] args := by
      refine ⟨by simp [hxs.length], fun i v hi => ?_, fun i b0 hi => by simp at hi, fun i b o hi => by simp at hi, fun i j b o o' hi => by simp at hi, fun b hb => hb⟩
      simp only [List.getElem?_map, Option.map_eq_some_iff] at hi
      obtain ⟨x, hx, rfl⟩ := hi
      obtain ⟨v, h1, h2⟩ := hxs.get i x hx
      rw [Array.getD_eq_getD_getElem?, ← Array.getElem?_toList, h1]
      exact .p _ _ h2
    refine Calls.mono (hsnd.2 W _ _ args hpre) fun e W' hpost => ?_
    obtain ⟨cs, ps, M', rfl, post⟩ := hpost
    have hkeep : ∀ b, b < W.heap.size → W'.heap[b]? = W.heap[b]? := fun b hb => post.keep b hb fun i o hi => by simp at hi
    have hr := post.res
    rw [hres, hrets] at hr
    have hcs : cs = [.bool true] := by
      cases hr with
      | cons _ _ _ _ _ c cs' p ps' h1 h2 _ =>
        cases h2
        cases h1 with
        | deep _ x _ _ hv => cases hv; rfl
    subst hcs
    refine ⟨.bool true, rfl, ds, [], before, [], p, [], hW0, ?_, ?_, ?_, ?_, fun h => by cases h⟩
    · rw [List.append_nil, hs, hres]
      exact ⟨[], [], ⟨1, by simp [DataW.trod, Value.cells, hub]⟩, rfl, rfl⟩
    · rw [List.append_nil, hs]
      exact trodAll_later hkeep hA hall
    · rw [List.append_nil, hs, hvars]; rfl
    · refine ⟨post.os, post.output, fun i hi => ?_⟩
      rw [hkeep i hi]
      cases hh : W.heap[i]? with
      | none => simp
      | some o => cases o <;> simp
end

/- A TABLE, LOOKED THROUGH. -/
def TypesOk (P : Program) : List (Nat × TI) → Prop
  | [] => True
  | (t, i) :: r => mkTI P t = some i ∧ TypesOk P r
structure FuncOk (P : Program) (T : Tab) (f : Nat) (fi : FI) : Prop where
  fn : P.funcs[f]? = some fi.fn
  name : (fi.fn.name == "runtime.NumGoroutine") = false
  draws : (match fi.fn.body with | some c => drawsOk T fi.hides c | none => true) = true
  flat : (fi.cfg.byRef || (fi.cfg.shares || retsFlat T fi.cfg.rets fi.fn.resultTypes.toList)) = true
  nvars : Nat.ble fi.cfg.nvars 100000 = true
def FuncsOk (P : Program) (T : Tab) : List (Nat × FI) → Prop
  | [] => True
  | (f, i) :: r => FuncOk P T f i ∧ FuncsOk P T r
theorem typesOk_get {P : Program} : ∀ {l : List (Nat × TI)} {t : Nat} {i : TI}, TypesOk P l → tlook l t = some i → mkTI P t = some i
  | [], t, i, _, h => by simp [tlook] at h
  | (k, x) :: r, t, i, hk, h => by
    simp only [tlook] at h
    cases he : k == t with
    | true =>
      rw [he] at h
      have e : k = t := by simpa using he
      subst e
      cases h
      exact hk.1
    | false => rw [he] at h; exact typesOk_get hk.2 h
theorem funcsOk_get {P : Program} {T : Tab} : ∀ {l : List (Nat × FI)} {f : Nat} {i : FI}, FuncsOk P T l → tlook l f = some i → FuncOk P T f i
  | [], f, i, _, h => by simp [tlook] at h
  | (k, x) :: r, f, i, hk, h => by
    simp only [tlook] at h
    cases he : k == f with
    | true =>
      rw [he] at h
      have e : k = f := by simpa using he
      subst e
      cases h
      exact hk.1
    | false => rw [he] at h; exact funcsOk_get hk.2 h
theorem tabOk_of {P : Program} {T : Tab} (h1 : TypesOk P T.types) (h2 : FuncsOk P T T.funcs) (h3 : P.follows .mixedOrders = true) : TabOk P T := by
  refine ⟨fun t i h => typesOk_get h1 h, fun f fi h => ?_, h3, fun f fi h => Nat.le_of_ble_eq_true (funcsOk_get h2 h).nvars⟩
  have g := funcsOk_get h2 h
  refine ⟨g.fn, g.name, fun c hc => ?_, fun hb hs => ?_⟩
  · have := g.draws
    rw [hc] at this
    exact this
  · have := g.flat
    rw [hb, hs] at this
    exact this
end Go.Skm
