/-
  The law ScatterHolds returns true for all arguments; no condition.
-/
import Derived.Test.YtipkmkmngcjdbaaRows
import Derived.Test.YtipkmkmngcjdbaaExt
import Derived.Test.YtipkmkmngcjdbaaS8
import Derived.Test.YtipkmkmngcjdbaaSkmE
import Derived.Test.YtipkmkmngcjdbaaS16
import Derived.ProofKit
set_option maxRecDepth 100000
namespace Go.Proofs.Ytipkmkmngcjdbaa
open Go.ChangeShapes Go.WideShapes Go.ChangeAt Go.RowKit Go.Skm Go.Skm.Sct
theorem ownHolds : ownKnob Try.prog.godebug = none := by kernel_rfl
theorem holds_lifted (os : Os) (started : os.Started) (H : Type) (enc : TypeId × Value → H) :
    ReturnsInHanded {} Try.checked os 8 .any (Rows.scatterHoldsSpec.pre6 enc Try.prog Try.f8 Rows.scatterHoldsRow.domain false) (Rows.scatterHoldsSpec.post enc Try.prog Try.f8 false true false false) := by
  refine returnsInHanded_of_change (C := Try.checked) ownHolds started (by kernel_rfl) Try.func8
    (ChangeSpec.witness6 (enc := enc) (C := Try.checked) false ⟨#[], #[.slice none 0 0, .int .i64 0, .int .i64 0], []⟩ 8 (by kernel_rfl) (by kernel_rfl) (by kernel_rfl) (by kernel_rfl)) ?_
  intro W base args ds gs before hval0 hW hcnd _
  have hlen : ∃ d0 d1 d2, ds = [d0, d1, d2] := by
    obtain ⟨p, q, hA0, hV, -⟩ := hW
    have hA : DataW.TrodAll enc Try.prog W 0 (fun _ => true) true Try.f8.params.toList args.toList ds p := hA0
    rw [Try.params8] at hA
    obtain ⟨v0, v1, v2, d0, d1, d2, p0, p1, p2, h1, h2, h3⟩ := trodAll_three hA
    exact ⟨d0, d1, d2, h2⟩
  refine law_of tabTrue libExt (f := 8) (fi := fi8) (by kernel_rfl) (fn := Try.f8) rfl (tb := 4) rfl rfl Try.underlying4 rfl hval0 hW (by kernel_rfl) ?_ (by simp) ?_
  · obtain ⟨d0, d1, d2, rfl⟩ := hlen
    rfl
  · intro xs hxs
    have hp : Try.f8.params.toList = [22, 3, 3] := rfl
    rw [hp] at hxs
    obtain ⟨x0, ys0, v0, us0, rfl, -, h1_0, h2_0, h3_0, hr0⟩ := hxs.one
    obtain ⟨x1, ys1, v1, us1, rfl, -, h1_1, h2_1, h3_1, hr1⟩ := hr0.one
    obtain ⟨x2, ys2, v2, us2, rfl, -, h1_2, h2_2, h3_2, hr2⟩ := hr1.one
    have := hr2.none
    subst this
    obtain ⟨a0, rfl, -, -⟩ := vecs_arg (by kernel_rfl) h1_0 h2_0 h3_0
    obtain ⟨a1, rfl, -, -⟩ := int_arg (by kernel_rfl) h2_1 h3_1
    obtain ⟨a2, rfl, -, -⟩ := int_arg (by kernel_rfl) h2_2 h3_2
    exact law8 libX libMine libKnown libClones a0 a1 a2
theorem holds_holds : Rows.ScatterHoldsSaid :=
  OpenClaim.holds_of_wide 8 Try.f8 rfl rfl rfl rfl rfl rfl rfl ⟨rfl, rfl, rfl, rfl, rfl⟩ rfl rfl rfl rfl rfl (by kernel_rfl) Try.func8 (by kernel_rfl)
    (of_decide_eq_true (by kernel_rfl)) (by unfold Func.isWrapper; first | (rw [if_pos (by decide +kernel)]; kernel_rfl) | (rw [if_neg (by decide +kernel)]; exact ⟨rfl, rfl⟩))
    (fun os started H enc _ => holds_lifted os started H enc)
#print axioms holds_holds
end Go.Proofs.Ytipkmkmngcjdbaa
