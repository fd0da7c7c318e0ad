/-
  The law HullHulls returns true for all arguments; no condition.
-/
import Derived.Test.YthdegeidcjdkeaaRows
import Derived.Test.YthdegeidcjdkeaaSrt3
import Derived.Test.YthdegeidcjdkeaaLw1
import Derived.Test.YthdegeidcjdkeaaSkmE
import Derived.ProofKit
set_option maxRecDepth 100000
namespace Go.Proofs.Ythdegeidcjdkeaa
open Go.ChangeShapes Go.WideShapes Go.ChangeAt Go.RowKit Go.Skm Go.Skm.Hull

theorem own : ownKnob Try.prog.godebug = none := by kernel_rfl

theorem hulls_lifted (os : Os) (started : os.Started) (H : Type) (enc : TypeId × Value → H) :
    ReturnsInHanded {} Try.checked os 3 .any (Rows.hullHullsSpec.pre6 enc Try.prog Try.f3 Rows.hullHullsRow.domain false) (Rows.hullHullsSpec.post enc Try.prog Try.f3 false true false false) := by
  refine returnsInHanded_of_change (C := Try.checked) own started (by kernel_rfl) Try.func3
    (ChangeSpec.witness6 (enc := enc) (C := Try.checked) false ⟨#[], #[.slice none 0 0], []⟩ 8 (by kernel_rfl) (by kernel_rfl) (by kernel_rfl) (by kernel_rfl)) ?_
  intro W base args ds gs before hval0 hW hcnd _
  have hlen : ∃ d, ds = [d] := by
    obtain ⟨p, q, hA0, hV, -⟩ := hW
    have hA : DataW.TrodAll enc Try.prog W 0 (fun _ => true) true Try.f3.params.toList args.toList ds p := hA0
    rw [Try.params3] at hA
    obtain ⟨v0, d0, p0, h1, h2, h3⟩ := trodAll_one hA
    exact ⟨d0, by simp_all⟩
  refine law_of tabOk extSort (f := 3) (fi := fi3) (by kernel_rfl) (fn := Try.f3) rfl (tb := 4) rfl rfl Try.underlying4 rfl hval0 hW (by kernel_rfl) ?_ ?_
  · obtain ⟨d, rfl⟩ := hlen
    rfl
  · intro xs hxs
    have hp : Try.f3.params.toList = [22] := rfl
    rw [hp] at hxs
    obtain ⟨x, ys, v, us, rfl, -, h1, h2, h3, hr⟩ := hxs.one
    have := hr.none
    subst this
    obtain ⟨l, rfl, -, hl⟩ := vecs_arg (by kernel_rfl) h1 h2 h3
    exact law3 sortX sortX_none sortOk l

theorem hulls_holds : Rows.HullHullsSaid :=
  OpenClaim.holds_of_wide 3 Try.f3 rfl rfl rfl rfl rfl rfl rfl ⟨rfl, rfl, rfl, rfl, rfl⟩ rfl rfl rfl rfl rfl (by kernel_rfl) Try.func3 (by kernel_rfl)
    (of_decide_eq_true (by kernel_rfl)) (by unfold Func.isWrapper; first | (rw [if_pos (by decide +kernel)]; kernel_rfl) | (rw [if_neg (by decide +kernel)]; exact ⟨rfl, rfl⟩))
    (fun os started H enc _ => hulls_lifted os started H enc)
#print axioms hulls_holds
end Go.Proofs.Ythdegeidcjdkeaa
