/-
  The sorting function, answered as the kit's proof of it says: the answer is true; condition: as for the answer.
-/
import Derived.Test.YthdegeidcjdkeaaSrt2
set_option maxRecDepth 100000
namespace Go.Skm.Hull
open Go Go.Skm Go.Sort Go.Proofs

theorem sorted_eq {l : List V3} {d' : Array V3} (hp : PermIn 0 l.toArray.size l.toArray d') (hs : SortedIn (ltOf cmpV) 0 l.toArray.size d') : d' = (srt l).toArray := by
  obtain ⟨h1, -, h2⟩ := hp
  have e1 : d'.extract 0 l.toArray.size = d' := by rw [← h1]; simp
  have e2 : l.toArray.extract 0 l.toArray.size = l.toArray := by simp
  rw [e1, e2] at h2
  have h3 : srt l = d'.toList := by
    refine srt_unique (by simpa using h2) ?_
    rw [List.pairwise_iff_getElem]
    intro i j hi hj hij
    have := hs i j (Nat.zero_le _) hij (by rw [← h1]; simpa using hj)
    have hi' : i < d'.size := by simpa using hi
    have hj' : j < d'.size := by simpa using hj
    rw [getElem!_pos d' j hj', getElem!_pos d' i hi'] at this
    unfold ltOf at this
    rw [decide_eq_false_iff_not] at this
    simp only [Array.getElem_toList]
    rw [cmpV_le]
    rw [cmpV_lt] at this
    omega
  rw [h3]

theorem flat_get (l : List V3) (i j : Nat) (v : V3) (hv : l[i]? = some v) (hj : j < 3) : (flatK encC 3 l.toArray)[i * 3 + j]! = .int .i64 (if j = 0 then v.x else if j = 1 then v.y else v.z) := by
  have hi : i < l.length := (List.getElem?_eq_some_iff.1 hv).1
  have hs : i * 3 + j < l.toArray.size * 3 := by simp; omega
  rw [get_flatK _ _ _ _ hs]
  have e1 : (i * 3 + j) / 3 = i := by omega
  have e2 : (i * 3 + j) % 3 = j := by omega
  rw [e1, e2]
  have e3 : l.toArray[i]! = v := by
    rw [getElem!_pos _ i (by simpa using hi)]
    simpa using (List.getElem?_eq_some_iff.1 hv).2
  rw [e3]
  exact (encC_get v j hj).2

theorem slice_inv {w : World} {M : Nat → Prop} {β : Nat → Option (Nat × Nat)} {h : Nat → Option Blk} {s n : Nat} {c : Value} (hn : 0 < n) (hr : AR w M β h (.slice s 3 0 n) c) :
    ∃ b o cap, β s = some (b, o) ∧ c = .slice (some ⟨b, o, none⟩) n cap ∧ Room w b (o + cap * 3) ∧ n ≤ cap := by
  generalize hx : AV.slice s 3 0 n = x at hr
  cases hr with
  | slice s' off len a ks xs b o cap hs hl hb hcap hr =>
    injection hx with h1 h2 h3 h4
    subst h1 h3 h4
    rw [← h2] at hr
    refine ⟨b, o, cap, hb, ?_, by simpa using hr, hcap⟩
    simp
  | sliceE s' off a ks xs base hs hl =>
    injection hx with h1 h2 h3 h4
    omega
  | _ => cases hx
theorem fn_inv {w : World} {M : Nat → Prop} {β : Nat → Option (Nat × Nat)} {h : Nat → Option Blk} {f : Nat} {c : Value} (hr : AR w M β h (.p (.fn f [])) c) : c = .func (.func f) #[] #[] := by
  cases hr with
  | p _ _ hv =>
    cases hv with
    | fn _ _ vs hn _ =>
      have : vs = #[] := Array.eq_empty_of_size_eq_zero (by simpa using hn)
      rw [this]

theorem extSort : ExtOk Try.prog tab sortX := by
  intro f fi s args bl rs bl' hf hX h
  have hf30 : f = 30 := by
    unfold sortX at hX
    split at hX
    · assumption
    · cases hX
  subst hf30
  have hs : s = sortF := by
    have : sortX 30 = some sortF := if_pos rfl
    rw [this] at hX
    exact (Option.some.inj hX).symm
  subst hs
  have hfi : tlook tab.funcs 30 = some fi30 := by kernel_rfl
  have : fi = fi30 := by rw [hfi] at hf; exact (Option.some.inj hf).symm
  subst this
  obtain ⟨l, rfl, rfl, hr, h0, hl⟩ := sortF_some h
  cases hr
  refine ⟨⟨_, rfl⟩, fun w M β cargs hpre => ?_⟩
  have hlk : look (initHeap 0 [Blk.arr true kV (encL l)]) argSite = some (.arr true kV (encL l)) := by
    have := look_init (bl := [Blk.arr true kV (encL l)]) 0 0
    simpa using this
  have a0 := hpre.args 0 _ rfl
  have a1 := hpre.args 1 _ rfl
  have hb0 := hpre.blk 0 _ rfl
  obtain ⟨b, o, cap, hβ, c0, room, hcap⟩ := slice_inv h0 a0
  have c1 := fn_inv a1
  have hcargs : cargs = #[.slice (some ⟨b, o, none⟩) l.toArray.size cap, .func (.func 31) #[] #[]] := by
    have hsz : cargs.size = 2 := hpre.num
    apply Array.ext_getElem?
    intro i
    match i with
    | 0 =>
      rw [Array.getElem?_eq_getElem (by omega)]
      have : cargs.getD 0 undef = cargs[0] := by simp [Array.getD, hsz]
      rw [← this, c0]; simp
    | 1 =>
      rw [Array.getElem?_eq_getElem (by omega)]
      have : cargs.getD 1 undef = cargs[1] := by simp [Array.getD, hsz]
      rw [← this, c1]; simp
    | i + 2 =>
      rw [Array.getElem?_eq_none (by omega), Array.getElem?_eq_none (by simp)]
  subst hcargs
  have hown := hpre.own 0 b o (by simp) hβ
  have blkInv : ∃ C e fr, w.heap[b]? = some (.cells C e fr) ∧ o + l.length * 3 ≤ C.size ∧ Open C fr ∧ ∀ (i : Nat) (x : PV) (j : Nat) (c : PV), (encL l)[i]? = some x → x.cells[j]? = some c → VR w M c (C.getD (o + i * 3 + j) undef) := by
    generalize hx : Blk.arr true kV (encL l) = x at hb0
    cases hb0 with
    | box => cases hx
    | arrE a ks =>
      injection hx with _ _ h3
      have := congrArg List.length h3
      simp at this
      rw [this] at h0
      simp at h0
    | arr a ks xs b' o' C e fr hb hw hn ho hs hc =>
      injection hx with h1 h2 h3
      subst h1 h2 h3
      have : (b', o') = (b, o) := by
        rw [show argSite + 0 = argSite from rfl, hβ] at hb
        exact (Option.some.inj hb).symm
      cases this
      refine ⟨C, e, fr, hw, by simpa using hn, ho, fun i x j c h1 h2 => by simpa using hc i x j c h1 h2⟩
  obtain ⟨C, e, fr, hw, hCn, hopen, hcell⟩ := blkInv
  have hH : HoldsK encC 3 w b o l.toArray := by
    intro t ht
    rw [size_flatK] at ht
    have ht' : t < l.length * 3 := by simpa using ht
    have hi : t / 3 < l.length := by omega
    have hj : t % 3 < 3 := Nat.mod_lt _ (by omega)
    have et : t = t / 3 * 3 + t % 3 := by omega
    obtain ⟨v, hv⟩ : ∃ v, l[t / 3]? = some v := ⟨_, List.getElem?_eq_getElem hi⟩
    have hx : (encL l)[t / 3]? = some (encV v) := by rw [encL_get, hv]; rfl
    have h1 := vr_int (hcell _ _ _ _ hx (encC_get v (t % 3) hj).1)
    have h2 := flat_get l (t / 3) (t % 3) v hv hj
    rw [← et] at h2
    rw [Nat.add_assoc, ← et] at h1
    have hin : o + t < C.size := by omega
    constructor
    · simp only [World.cell?, hw, Option.isSome_none, Bool.false_eq_true, if_false]
      rw [Array.getElem?_eq_getElem hin]
      have : C.getD (o + t) undef = C[o + t] := by simp [Array.getD, hin]
      rw [← this, h1, h2]; rfl
    · have := hopen (o + t) hin
      obtain ⟨lo, hi⟩ := fr
      simp only [World.frozen?, hw]
      simp only [Bool.and_eq_false_iff, decide_eq_false_iff_not]
      simp only [not_and, Nat.not_lt] at this
      by_cases hlo : lo ≤ o + t
      · right; have := this hlo; omega
      · left; exact hlo
  have call := AnyQ.slices_SortFunc Ythdegeidcjdkeaa.sortLays 3 (fun w => Try.isAgg31 w) (fun w => Try.sizeOf31 w) encC (fun _ => rfl) (fun x v hv => by
    simp only [encC, List.mem_cons, List.not_mem_nil, or_false] at hv
    rcases hv with rfl | rfl | rfl <;> rfl) cmpV swoV 31 #[] b o cap l.toArray w (enters_of Try.func31 (by kernel_rfl) rfl) (cmpLaysV b o _ w) hH hown.2 (by simp; omega)
  refine Calls.mono call fun ee w' hpost => ?_
  obtain ⟨he, d', n, os, hpm, hsd, hw'⟩ := hpost
  have hd := sorted_eq hpm hsd
  subst hd
  refine ⟨[], [], M, he, ?_⟩
  have hheap : w'.heap = (w.heap.modify b (onCells (putCells id o (flatK encC 3 (srt l).toArray)))) ++ os := by rw [hw']; rfl
  have hsz : w.heap.size ≤ w'.heap.size := by rw [hheap]; simp
  have hold : ∀ k, k < w.heap.size → w'.heap[k]? = (w.heap.modify b (onCells (putCells id o (flatK encC 3 (srt l).toArray))))[k]? := fun k hk => by
    rw [hheap, Array.getElem?_append_left (by simpa using hk)]
  have hoth : ∀ k, k < w.heap.size → k ≠ b → w'.heap[k]? = w.heap[k]? := fun k hk hne => by
    rw [hold k hk, Array.getElem?_modify, if_neg (fun e => hne e.symm)]
  have hthis : w'.heap[b]? = some (.cells (putCells id o (flatK encC 3 (srt l).toArray) C) e fr) := by
    rw [hold b hown.2, Array.getElem?_modify, if_pos rfl, hw]; rfl
  have hCs : (putCells id o (flatK encC 3 (srt l).toArray) C).size = C.size := by unfold putCells; simp
  have hlk' : look (initHeap 0 [Blk.arr true kV (encL (srt l))]) argSite = some (.arr true kV (encL (srt l))) := by
    have := look_init (bl := [Blk.arr true kV (encL (srt l))]) 0 0
    simpa using this
  refine ⟨.nil _, fun b o h => by simp at h, fun b hb => hb, fun b hb => Or.inl hb, fun k hk => Nat.lt_of_lt_of_le (hpre.msub k hk) hsz, ?_, ?_, hsz, ?_, ?_, ?_, ?_, rfl, ?_⟩
  · intro k hk hne
    refine hoth k hk fun e => ?_
    subst e
    exact hne 0 o (by simp) hβ
  · intro k m hk hroom
    by_cases hkb : k = b
    · subst hkb
      obtain ⟨C', e', fr', h1, h2, h3⟩ := hroom
      rw [hw] at h1
      cases h1
      exact ⟨_, e, fr, hthis, by rw [hCs]; exact h2, fun i hi => h3 i (by rwa [hCs] at hi)⟩
    · obtain ⟨C', e', fr', h1, h2, h3⟩ := hroom
      exact ⟨C', e', fr', by rw [hoth k hk hkb]; exact h1, h2, h3⟩
  · rw [hw']; rfl
  · rw [hw']; rfl
  · rw [hw']; rfl
  · rw [hw']; exact Nat.le_add_right _ _
  · intro i x0 x1 h1 h2
    match i, h1, h2 with
    | 0, h1, h2 =>
      cases h1; cases h2
      refine ⟨?_, ⟨rfl, rfl, by simp [srt_length]⟩, rfl, rfl⟩
      refine .arr true kV _ b o _ e fr hβ hthis ?_ ?_ ?_ ?_
      · rw [hCs, encL_length, srt_length]; exact hCn
      · intro i hi
        exact hopen i (by rwa [hCs] at hi)
      · intro x hx
        simp only [encL, List.mem_map] at hx
        obtain ⟨v, _, rfl⟩ := hx
        rfl
      · intro i x j c hx hc
        obtain ⟨v, hv, hj, rfl⟩ := enc_cells hx hc
        have hg := flat_get (srt l) i j v hv hj
        have hi : i < (srt l).length := (List.getElem?_eq_some_iff.1 hv).1
        have hil : i < l.length := by rwa [srt_length] at hi
        have hin : o + i * 3 + j < C.size := by omega
        have hval : (putCells id o (flatK encC 3 (srt l).toArray) C).getD (o + i * 3 + j) undef = .int .i64 (if j = 0 then v.x else if j = 1 then v.y else v.z) := by
          rw [Array.getD_eq_getD_getElem?]
          unfold putCells
          rw [Array.getElem?_mapIdx, Array.getElem?_eq_getElem hin]
          simp only [Option.map_some, Option.getD_some, size_flatK]
          rw [if_pos ⟨by omega, by simp; omega⟩]
          have : o + i * 3 + j - o = i * 3 + j := by omega
          rw [this, hg]; rfl
        show VR w' M _ ((putCells id o (flatK encC 3 (srt l).toArray) C).getD (o + i * 3 + j) undef)
        rw [hval]
        exact .int _ _
    | i + 1, h1, h2 => simp at h1

theorem sortOk : SortOk sortX := by
  intro l h0 hl
  refine run_ext (fi := fi30) (by kernel_rfl) (if_pos rfl) ?_
  unfold sortF
  have e : (100000 : Nat) = argSite := rfl
  simp only [e]
  rw [if_pos ⟨trivial, trivial, trivial, trivial, trivial, rfl⟩, decL_enc]
  simp only
  rw [if_pos ⟨trivial, h0, hl⟩]
end Go.Skm.Hull
