/-
  The law ScatterPicks returns true for all arguments; no condition.
-/
import Derived.Test.YtipkmkmngcjdbaaRows
import Derived.Test.YtipkmkmngcjdbaaExt
import Derived.Test.YtipkmkmngcjdbaaArgs
import Derived.ProofKit
set_option maxRecDepth 100000
namespace Go.Proofs.Ytipkmkmngcjdbaa
open Go.ChangeShapes Go.WideShapes Go.ChangeAt Go.RowKit Go.Skm Go.Skm.Sct
theorem ownPicks : ownKnob Try.prog.godebug = none := by kernel_rfl
theorem picks_lifted (os : Os) (started : os.Started) (H : Type) (enc : TypeId × Value → H) :
    ReturnsInHanded {} Try.checked os 3 .any (Rows.scatterPicksSpec.pre6 enc Try.prog Try.f3 Rows.scatterPicksRow.domain false) (Rows.scatterPicksSpec.post enc Try.prog Try.f3 false true false false) := by
  refine returnsInHanded_of_change (C := Try.checked) ownPicks started (by kernel_rfl) Try.func3
    (ChangeSpec.witness6 (enc := enc) (C := Try.checked) false ⟨#[],#[.slice none 0 0,.int .i64 0],[]⟩ 8 (by kernel_rfl) (by kernel_rfl) (by kernel_rfl) (by kernel_rfl)) ?_
  intro W base args ds gs before hval0 hW hcnd _
  have hlen : ∃ d0 d1,ds = [d0,d1] := by
    obtain ⟨p,q,hA0,hV,-⟩ := hW
    have hA : DataW.TrodAll enc Try.prog W 0 (fun _ => true) true Try.f3.params.toList args.toList ds p := hA0
    rw [Try.params3] at hA
    obtain ⟨v0,v1,d0,d1,p0,p1,h1,h2,h3⟩ := trodAll_two hA
    exact ⟨d0,d1,h2⟩
  refine law_of tabTrue libExt (f := 3) (fi := fi3) (by kernel_rfl) (fn := Try.f3) rfl (tb := 4) rfl rfl Try.underlying4 rfl hval0 hW (by kernel_rfl) ?_ (by simp) ?_
  · obtain ⟨d0,d1,rfl⟩ := hlen
    rfl
  · intro xs hxs
    have hp : Try.f3.params.toList = [22,3] := rfl
    rw [hp] at hxs
    obtain ⟨x0,ys0,v0,us0,rfl,-,h1_0,h2_0,h3_0,hr0⟩ := hxs.one
    obtain ⟨x1,ys1,v1,us1,rfl,-,h1_1,h2_1,h3_1,hr1⟩ := hr0.one
    have := hr1.none
    subst this
    obtain ⟨a0,rfl,-,-⟩ := vecs_arg (by kernel_rfl) h1_0 h2_0 h3_0
    obtain ⟨a1,rfl,-,-⟩ := int_arg (by kernel_rfl) h2_1 h3_1
    exact law3 libX libMine libKnown libClones a0 a1
theorem picks_holds : Rows.ScatterPicksSaid :=
  OpenClaim.holds_of_wide 3 Try.f3 rfl rfl rfl rfl rfl rfl rfl ⟨rfl,rfl,rfl,rfl,rfl⟩ rfl rfl rfl rfl rfl (by kernel_rfl) Try.func3 (by kernel_rfl)
    (of_decide_eq_true (by kernel_rfl)) (by unfold Func.isWrapper; first | (rw [if_pos (by decide +kernel)]; kernel_rfl) | (rw [if_neg (by decide +kernel)]; exact ⟨rfl,rfl⟩))
    (fun os started H enc _ => picks_lifted os started H enc)
#print axioms picks_holds
end Go.Proofs.Ytipkmkmngcjdbaa
