/-
  The law ScatterFormations returns true for all arguments; no condition.
-/
import Derived.Test.YtipkmkmngcjdbaaRows
import Derived.Test.YtipkmkmngcjdbaaExt
import Derived.Test.YtipkmkmngcjdbaaArgs
import Derived.ProofKit
set_option maxRecDepth 100000
namespace Go.Proofs.Ytipkmkmngcjdbaa
open Go.ChangeShapes Go.WideShapes Go.ChangeAt Go.RowKit Go.Skm Go.Skm.Sct
theorem ownFormations : ownKnob Try.prog.godebug = none := by kernel_rfl
theorem formations_lifted (os : Os) (started : os.Started) (H : Type) (enc : TypeId × Value → H) :
    ReturnsInHanded {} Try.checked os 6 .any (Rows.scatterFormationsSpec.pre6 enc Try.prog Try.f6 Rows.scatterFormationsRow.domain false) (Rows.scatterFormationsSpec.post enc Try.prog Try.f6 false true false false) := by
  refine returnsInHanded_of_change (C := Try.checked) ownFormations started (by kernel_rfl) Try.func6
    (ChangeSpec.witness6 (enc := enc) (C := Try.checked) false ⟨#[],#[.slice none 0 0,.int .i64 0],[]⟩ 8 (by kernel_rfl) (by kernel_rfl) (by kernel_rfl) (by kernel_rfl)) ?_
  intro W base args ds gs before hval0 hW hcnd _
  have hlen : ∃ d0 d1,ds = [d0,d1] := by
    obtain ⟨p,q,hA0,hV,-⟩ := hW
    have hA : DataW.TrodAll enc Try.prog W 0 (fun _ => true) true Try.f6.params.toList args.toList ds p := hA0
    rw [Try.params6] at hA
    obtain ⟨v0,v1,d0,d1,p0,p1,h1,h2,h3⟩ := trodAll_two hA
    exact ⟨d0,d1,h2⟩
  refine law_of tabTrue libExt (f := 6) (fi := fi6) (by kernel_rfl) (fn := Try.f6) rfl (tb := 4) rfl rfl Try.underlying4 rfl hval0 hW (by kernel_rfl) ?_ (by simp) ?_
  · obtain ⟨d0,d1,rfl⟩ := hlen
    rfl
  · intro xs hxs
    have hp : Try.f6.params.toList = [41,3] := rfl
    rw [hp] at hxs
    obtain ⟨x0,ys0,v0,us0,rfl,-,h1_0,h2_0,h3_0,hr0⟩ := hxs.one
    obtain ⟨x1,ys1,v1,us1,rfl,-,h1_1,h2_1,h3_1,hr1⟩ := hr0.one
    have := hr1.none
    subst this
    obtain ⟨a0,rfl⟩ := figs_arg (by kernel_rfl) h1_0 h2_0 h3_0
    obtain ⟨a1,rfl,-,-⟩ := int_arg (by kernel_rfl) h2_1 h3_1
    exact law6 libX libMine libKnown libClones libKeys libSort a0 a1
theorem formations_holds : Rows.ScatterFormationsSaid :=
  OpenClaim.holds_of_wide 6 Try.f6 rfl rfl rfl rfl rfl rfl rfl ⟨rfl,rfl,rfl,rfl,rfl⟩ rfl rfl rfl rfl rfl (by kernel_rfl) Try.func6 (by kernel_rfl)
    (of_decide_eq_true (by kernel_rfl)) (by unfold Func.isWrapper; first | (rw [if_pos (by decide +kernel)]; kernel_rfl) | (rw [if_neg (by decide +kernel)]; exact ⟨rfl,rfl⟩))
    (fun os started H enc _ => formations_lifted os started H enc)
#print axioms formations_holds
end Go.Proofs.Ytipkmkmngcjdbaa
