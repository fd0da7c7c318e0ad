/-
  A machine that runs this program's functions on pure values, and the proof that what it returns is true of the program; no condition beside the hypotheses of each.
-/
import Derived.Test.YtipkmkmngcjdbaaSkmE
import Derived.Below
namespace Go.Skm
open Go.RowKit
abbrev ExtFn := List AV → List Blk → Option (List AV × List Blk)
def ExtOk1 (P : Program) (T : Tab) (gl : Option (List (Nat × Obj))) (f : Nat) (s : ExtFn) : Prop :=
  ∀ fi args bl rs bl', tlook T.funcs f = some fi → s args bl = some (rs, bl') → (∃ c, fi.fn.body = some c) ∧ (∀ b ∈ bl, pureBlk b = true) ∧
    ∀ (w : World) (M : Nat → Prop) (β : Nat → Option (Nat × Nat)) (cargs : Array Value), (∀ p ∈ gl.getD [], M p.1 ∧ w.heap[p.1]? = some p.2) → CallPre w M β args bl cargs →
      Calls P f cargs w fun e w' => ∃ cs ps M', e = .returned (wrapV cs) ∧ CallPost gl T fi w M β bl rs bl' w' M' cs ps
def extL (l : List (Nat × ExtFn)) : Ext := fun f => tlook l f
theorem extOk_nil {P : Program} {T : Tab} {gl : Option (List (Nat × Obj))} : ExtOk P T gl (extL []) := fun f fi s args bl rs bl' _ h => by cases h
theorem extOk_cons {P : Program} {T : Tab} {gl : Option (List (Nat × Obj))} {f : Nat} {s : ExtFn} {l : List (Nat × ExtFn)} (h1 : ExtOk1 P T gl f s) (h2 : ExtOk P T gl (extL l)) : ExtOk P T gl (extL ((f, s) :: l)) := by
  intro g fi s' args bl rs bl' hf hX h
  unfold extL at hX
  rw [tlook] at hX
  by_cases e : f = g
  · subst e
    rw [beq_self_eq_true, cond_true] at hX
    cases hX
    exact h1 fi args bl rs bl' hf h
  · rw [show (f == g) = false from by simpa using e, cond_false] at hX
    exact h2 g fi s' args bl rs bl' hf hX h
section
variable {P : Program} {T : Tab} {gl : Option (List (Nat × Obj))} {fi : FI} {w w' : World} {M : Nat → Prop} {β : Nat → Option (Nat × Nat)} {cargs : Array Value}
theorem cargs_one {x : PV} (h : CallPre w M β [.p x] [] cargs) : ∃ v, cargs = #[v] ∧ VR w M x v := by
  have h0 := h.args 0 _ rfl
  have hs : cargs.size = 1 := h.num
  refine ⟨cargs[0], ?_, ?_⟩
  · apply Array.ext
    · simpa using hs
    · intro i h1 h2
      have : i = 0 := by omega
      subst this; rfl
  · have e : cargs.getD 0 undef = cargs[0] := by simp [Array.getD, hs]
    rw [e] at h0
    cases h0 with
    | p _ _ hv => exact hv
theorem cargs_two {x y : PV} (h : CallPre w M β [.p x, .p y] [] cargs) : ∃ v u, cargs = #[v, u] ∧ VR w M x v ∧ VR w M y u := by
  have h0 := h.args 0 _ rfl
  have h1 := h.args 1 _ rfl
  have hs : cargs.size = 2 := h.num
  have e0 : cargs.getD 0 undef = cargs[0] := by simp [Array.getD, hs]
  have e1 : cargs.getD 1 undef = cargs[1] := by simp [Array.getD, hs]
  rw [e0] at h0
  rw [e1] at h1
  refine ⟨cargs[0], cargs[1], ?_, ?_, ?_⟩
  · apply Array.ext
    · simpa using hs
    · intro i h2 h3
      have : i = 0 ∨ i = 1 := by omega
      rcases this with rfl | rfl <;> rfl
  · cases h0 with
    | p _ _ hv => exact hv
  · cases h1 with
    | p _ _ hv => exact hv
theorem vr_int' {k : IntKind} {n : Int} {c : Value} (h : VR w M (.int k n) c) : c = .int k n := by cases h; rfl
theorem post_grow {args : List AV} (hpre : CallPre w M β args [] cargs) (hb : Below w.heap.size w w') (hdr : DrawnLe gl w.drawn w'.drawn) {rs : List AV} {cs : List Value} {ps : List (Option (Nat × Nat))}
    (hres : ∀ M : Nat → Prop, ResL T w' M β (look (initHeap 0 [])) fi.cfg.rets fi.fn.resultTypes.toList rs cs ps) (hown : ∀ b o, some (b, o) ∈ ps → b < w'.heap.size ∧ w.heap.size ≤ b) : CallPost gl T fi w M β [] rs [] w' M cs ps := by
  refine ⟨hres M, fun b o h => ⟨fun hM => ?_, hown b o h⟩, fun _ _ => ⟨fun _ => False, fun b h => h.elim, hres _⟩, fun b h => h, fun b h => .inl h, fun b h => Nat.lt_of_lt_of_le (hpre.msub b h) hb.size, fun b h _ => hb.block b h, ?_, hb.size, hb.os, hb.tape, hb.output, hdr, rfl, ?_⟩
  · have := hpre.msub b hM
    have := (hown b o h).2
    omega
  · intro b n h hr
    obtain ⟨C, e, fr, h1, h2, h3⟩ := hr
    exact ⟨C, e, fr, by rw [hb.block b h]; exact h1, h2, h3⟩
  · intro i b0 b1 h; simp at h
end
end Go.Skm
