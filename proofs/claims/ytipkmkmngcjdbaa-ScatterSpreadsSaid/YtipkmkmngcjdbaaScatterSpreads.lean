/-
  The law ScatterSpreads returns true for all arguments; no condition.
-/
import Derived.Test.YtipkmkmngcjdbaaRows
import Derived.Test.YtipkmkmngcjdbaaExt
import Derived.Test.YtipkmkmngcjdbaaArgs
import Derived.ProofKit
set_option maxRecDepth 100000
namespace Go.Proofs.Ytipkmkmngcjdbaa
open Go.ChangeShapes Go.WideShapes Go.ChangeAt Go.RowKit Go.Skm Go.Skm.Sct
theorem ownSpreads : ownKnob Try.prog.godebug = none := by kernel_rfl
theorem spreads_lifted (os : Os) (started : os.Started) (H : Type) (enc : TypeId × Value → H) :
    ReturnsInHanded {} Try.checked os 4 .any (Rows.scatterSpreadsSpec.pre6 enc Try.prog Try.f4 Rows.scatterSpreadsRow.domain false) (Rows.scatterSpreadsSpec.post enc Try.prog Try.f4 false true false false) := by
  refine returnsInHanded_of_change (C := Try.checked) ownSpreads started (by kernel_rfl) Try.func4
    (ChangeSpec.witness6 (enc := enc) (C := Try.checked) false ⟨#[],#[.slice none 0 0],[]⟩ 8 (by kernel_rfl) (by kernel_rfl) (by kernel_rfl) (by kernel_rfl)) ?_
  intro W base args ds gs before hval0 hW hcnd _
  have hlen : ∃ d0,ds = [d0] := by
    obtain ⟨p,q,hA0,hV,-⟩ := hW
    have hA : DataW.TrodAll enc Try.prog W 0 (fun _ => true) true Try.f4.params.toList args.toList ds p := hA0
    rw [Try.params4] at hA
    obtain ⟨v0,d0,p0,h1,h2,h3⟩ := trodAll_one hA
    exact ⟨d0,by simp_all⟩
  refine law_of tabTrue libExt (f := 4) (fi := fi4) (by kernel_rfl) (fn := Try.f4) rfl (tb := 4) rfl rfl Try.underlying4 rfl hval0 hW (by kernel_rfl) ?_ (by simp) ?_
  · obtain ⟨d0,rfl⟩ := hlen
    rfl
  · intro xs hxs
    have hp : Try.f4.params.toList = [22] := rfl
    rw [hp] at hxs
    obtain ⟨x0,ys0,v0,us0,rfl,-,h1_0,h2_0,h3_0,hr0⟩ := hxs.one
    have := hr0.none
    subst this
    obtain ⟨a0,rfl,-,-⟩ := vecs_arg (by kernel_rfl) h1_0 h2_0 h3_0
    exact law4 libX libMine libKnown a0
theorem spreads_holds : Rows.ScatterSpreadsSaid :=
  OpenClaim.holds_of_wide 4 Try.f4 rfl rfl rfl rfl rfl rfl rfl ⟨rfl,rfl,rfl,rfl,rfl⟩ rfl rfl rfl rfl rfl (by kernel_rfl) Try.func4 (by kernel_rfl)
    (of_decide_eq_true (by kernel_rfl)) (by unfold Func.isWrapper; first | (rw [if_pos (by decide +kernel)]; kernel_rfl) | (rw [if_neg (by decide +kernel)]; exact ⟨rfl,rfl⟩))
    (fun os started H enc _ => spreads_lifted os started H enc)
#print axioms spreads_holds
end Go.Proofs.Ytipkmkmngcjdbaa
