/-
  The sorting function, answered as the kit's proof of it says; condition: lists of vectors, not empty, at most 10000.
-/
import Derived.Test.YthdegeidcjdkeaaSrt1
import Derived.Test.YthdegeidcjdkeaaTabOk
import Derived.Test.YthdegeidcjdkeaaCt13
set_option maxRecDepth 100000
namespace Go.Skm.Hull
open Go Go.Skm Go.Sort Go.Proofs

def encC (v : V3) : List Value := [.int .i64 v.x, .int .i64 v.y, .int .i64 v.z]
def decV : PV → Option V3
  | .agg [.int .i64 x, .int .i64 y, .int .i64 z] => some ⟨x, y, z⟩
  | _ => none
def decL : List PV → Option (List V3)
  | [] => some []
  | p :: r => match decV p, decL r with
    | some v, some l => some (v :: l)
    | _, _ => none
theorem decL_enc : ∀ l : List V3, decL (encL l) = some l
  | [] => rfl
  | v :: l => by
    rw [encL_cons, decL, decL_enc l]; rfl
theorem decV_some {p : PV} {v : V3} (h : decV p = some v) : p = encV v := by
  unfold decV at h
  split at h
  · cases h; rfl
  · cases h
theorem decL_some : ∀ {xs : List PV} {l : List V3}, decL xs = some l → xs = encL l
  | [], l, h => by cases h; rfl
  | p :: r, l, h => by
    unfold decL at h
    split at h
    · rename_i v l' h1 h2
      cases h
      rw [decV_some h1, decL_some h2]; rfl
    · cases h
def sortF (args : List AV) (bl : List Blk) : Option (List AV × List Blk) :=
  match args, bl with
  | [.slice s z o n, .p (.fn g [])], [.arr a ks xs] =>
    if s = argSite ∧ z = 3 ∧ o = 0 ∧ g = 31 ∧ a = true ∧ Kd.beqs ks kV = true then
      match decL xs with
      | some l => if l.length = n ∧ 0 < n ∧ n ≤ 10000 then some ([], [.arr true kV (encL (srt l))]) else none
      | none => none
    else none
  | _, _ => none
def sortX : Ext := fun f => if f = 30 then some sortF else none
theorem sortX_none (f : Nat) (h : f ≠ 30) : sortX f = none := if_neg h
theorem sortF_some {args : List AV} {bl : List Blk} {r : List AV × List Blk} (h : sortF args bl = some r) :
    ∃ l : List V3, args = [.slice argSite 3 0 l.length, .p (.fn 31 [])] ∧ bl = [.arr true kV (encL l)] ∧ r = ([], [.arr true kV (encL (srt l))]) ∧ 0 < l.length ∧ l.length ≤ 10000 := by
  unfold sortF at h
  split at h
  · rename_i s z o n g a ks xs
    split at h
    · rename_i hc
      obtain ⟨rfl, rfl, rfl, rfl, rfl, hk⟩ := hc
      have hk := Kd.beqs_eq _ _ hk
      subst hk
      split at h
      · rename_i l hl
        split at h
        · rename_i hn
          obtain ⟨rfl, h1, h2⟩ := hn
          cases h
          exact ⟨l, rfl, by rw [decL_some hl], rfl, h1, h2⟩
        · cases h
      · cases h
    · cases h
  · cases h

theorem swoV : SWO (ltOf cmpV) where
  irrefl x := by
    unfold ltOf
    rw [decide_eq_false_iff_not, cmpV_lt]; omega
  trans x y z h1 h2 := by
    unfold ltOf at *
    simp only [decide_eq_true_eq, cmpV_lt] at *
    omega
  ntrans x y z h1 h2 := by
    unfold ltOf at *
    simp only [decide_eq_false_iff_not, cmpV_lt] at *
    omega

theorem extNone : ExtOk Try.prog tab fun _ => none := fun f fi s args bl rs bl' _ h => by cases h
theorem vr_agg (w : World) (v : V3) : VR w (fun _ => False) (encV v) (.agg (encC v).toArray) := by
  refine .agg _ _ rfl (fun c hc => ?_) fun i c hc => ?_
  · simp only [List.mem_cons, List.not_mem_nil, or_false] at hc
    rcases hc with rfl | rfl | rfl <;> rfl
  · match i, hc with
    | 0, hc => cases hc; exact .int _ _
    | 1, hc => cases hc; exact .int _ _
    | 2, hc => cases hc; exact .int _ _
    | i + 3, hc => simp at hc

theorem cmpCalls (w : World) (x y : V3) : Calls Try.prog 31 #[.agg (encC x).toArray, .agg (encC y).toArray] w fun e w' => e = .returned (.int .i64 (cmpV x y)) ∧ ∃ q os', w' = grow (w.drewN q) os' := by
  have hc := c31 (fun _ => none) (fun f _ => rfl) x y
  have hf : tlook tab.funcs 31 = some fi31 := by kernel_rfl
  have hs := run_sound tabOk extNone 31 fi31 _ [] _ [] hf hc
  have hpre : CallPre w (fun _ => False) (fun _ => none) [.p (encV x), .p (encV y)] [] #[.agg (encC x).toArray, .agg (encC y).toArray] := by
    refine ⟨rfl, fun i v hi => ?_, fun i b0 hi => by simp at hi, fun i b o hi => by simp at hi, fun i j b o o' hi => by simp at hi, fun b hb => hb.elim⟩
    match i, hi with
    | 0, hi => cases hi; exact .p _ _ (vr_agg w x)
    | 1, hi => cases hi; exact .p _ _ (vr_agg w y)
    | i + 2, hi => simp at hi
  refine Calls.mono (hs.2 w _ _ _ hpre) fun e w' hpost => ?_
  obtain ⟨cs, ps, M', rfl, post⟩ := hpost
  have hcs : cs = [.int .i64 (cmpV x y)] := by
    have hr := post.res
    have e1 : fi31.cfg.rets = [] := rfl
    rw [e1] at hr
    cases hr with
    | cons _ _ _ _ _ c cs' p ps' h1 h2 _ =>
      cases h2
      cases h1 with
      | deep _ x _ _ hv => cases hv; rfl
  subst hcs
  refine ⟨rfl, w'.drawn - w.drawn, w'.heap.extract w.heap.size w'.heap.size, ?_⟩
  have hkeep : ∀ b, b < w.heap.size → w'.heap[b]? = w.heap[b]? := fun b hb => post.keep b hb fun i o hi => by simp at hi
  have hh : w'.heap = w.heap ++ w'.heap.extract w.heap.size w'.heap.size := by
    apply Array.ext_getElem?
    intro k
    have hsz := post.size
    rw [Array.getElem?_append]
    split
    · rename_i hk; exact hkeep k hk
    · rename_i hk
      rw [Array.getElem?_extract]
      by_cases hk2 : k < w'.heap.size
      · rw [if_pos (by omega)]
        congr 1; omega
      · rw [if_neg (by omega), Array.getElem?_eq_none (by omega)]
  have hd := post.drawn
  cases w' with
  | mk heap tape drawn os output =>
    have h1 : os = w.os := post.os
    have h2 : tape = w.tape := post.tape
    have h3 : output = w.output := post.output
    subst h1 h2 h3
    simp only at hh hd ⊢
    unfold grow World.drewN
    simp only
    rw [← hh, show w.drawn + (drawn - w.drawn) = drawn from by omega]
theorem cmpLaysV (blk off size : Nat) (w : World) : CmpLays Try.prog 31 #[] encC 3 cmpV blk off size w := fun _m _os _dk _ x y => cmpCalls _ x y

theorem encC_get (v : V3) (r : Nat) (hr : r < 3) : (encV v).cells[r]? = some (.int .i64 (if r = 0 then v.x else if r = 1 then v.y else v.z)) ∧ (encC v)[r]! = .int .i64 (if r = 0 then v.x else if r = 1 then v.y else v.z) := by
  match r, hr with
  | 0, _ => exact ⟨rfl, rfl⟩
  | 1, _ => exact ⟨rfl, rfl⟩
  | 2, _ => exact ⟨rfl, rfl⟩
  | r + 3, h => omega
theorem enc_cells {l : List V3} {i j : Nat} {x c : PV} (hx : (encL l)[i]? = some x) (hc : x.cells[j]? = some c) : ∃ v, l[i]? = some v ∧ j < 3 ∧ c = .int .i64 (if j = 0 then v.x else if j = 1 then v.y else v.z) := by
  rw [encL_get] at hx
  cases hv : l[i]? with
  | none => rw [hv] at hx; simp at hx
  | some v =>
    rw [hv] at hx
    simp only [Option.map_some, Option.some.injEq] at hx
    subst hx
    have hj : j < 3 := by
      have : (encV v).cells.length = 3 := rfl
      have h2 := List.getElem?_eq_some_iff.1 hc
      exact h2.1
    rw [(encC_get v j hj).1] at hc
    exact ⟨v, rfl, hj, (Option.some.inj hc).symm⟩
theorem vr_int {w : World} {M : Nat → Prop} {k : IntKind} {n : Int} {c : Value} (h : VR w M (.int k n) c) : c = .int k n := by cases h; rfl
end Go.Skm.Hull
