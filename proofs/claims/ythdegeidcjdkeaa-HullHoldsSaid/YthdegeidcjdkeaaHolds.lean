/-
  The law HullHolds returns true for all arguments; no condition.
-/
import Derived.Test.YthdegeidcjdkeaaHulls
import Derived.Test.YthdegeidcjdkeaaLw4
set_option maxRecDepth 100000
namespace Go.Proofs.Ythdegeidcjdkeaa
open Go.ChangeShapes Go.WideShapes Go.ChangeAt Go.RowKit Go.Skm Go.Skm.Hull

theorem hulls_of_hulls_lifted (os : Os) (started : os.Started) (H : Type) (enc : TypeId × Value → H) :
    ReturnsInHanded {} Try.checked os 8 .any (Rows.hullHoldsSpec.pre6 enc Try.prog Try.f8 Rows.hullHoldsRow.domain false) (Rows.hullHoldsSpec.post enc Try.prog Try.f8 false true false false) := by
  refine returnsInHanded_of_change (C := Try.checked) own started (by kernel_rfl) Try.func8
    (ChangeSpec.witness6 (enc := enc) (C := Try.checked) false ⟨#[], #[.slice none 0 0, .slice none 0 0, .agg #[.int .i64 0, .int .i64 0, .int .i64 0]], []⟩ 8 (by kernel_rfl) (by kernel_rfl) (by kernel_rfl) (by kernel_rfl)) ?_
  intro W base args ds gs before hval0 hW hcnd _
  have hlen : ∃ d d' d'', ds = [d, d', d''] := by
    obtain ⟨p, q, hA0, hV, -⟩ := hW
    have hA : DataW.TrodAll enc Try.prog W 0 (fun _ => true) true Try.f8.params.toList args.toList ds p := hA0
    rw [Try.params8] at hA
    obtain ⟨v0, v1, v2, d0, d1, d2, p0, p1, p2, h1, h2, h3⟩ := trodAll_three hA
    exact ⟨d0, d1, d2, h2⟩
  refine law_of tabOk extSort (f := 8) (fi := fi8) (by kernel_rfl) (fn := Try.f8) rfl (tb := 4) rfl rfl Try.underlying4 rfl hval0 hW (by kernel_rfl) ?_ ?_
  · obtain ⟨d, d', d'', rfl⟩ := hlen
    rfl
  · intro xs hxs
    have hp : Try.f8.params.toList = [22, 22, 31] := rfl
    rw [hp] at hxs
    obtain ⟨x, ys, v, us, rfl, -, h1, h2, h3, hr⟩ := hxs.one
    obtain ⟨y, zs, v', us', rfl, -, k1, k2, k3, hr⟩ := hr.one
    obtain ⟨z, zz, v'', us'', rfl, -, j1, j2, j3, hr⟩ := hr.one
    have := hr.none
    subst this
    obtain ⟨l, rfl, -, -⟩ := vecs_arg (by kernel_rfl) h1 h2 h3
    obtain ⟨m, rfl, -, -⟩ := vecs_arg (by kernel_rfl) k1 k2 k3
    obtain ⟨u, rfl, -⟩ := vec_arg (_v := v'') (by kernel_rfl) j2 j3
    exact law8 sortX sortX_none sortOk l m u

theorem hulls_of_hulls : Rows.HullHoldsSaid :=
  OpenClaim.holds_of_wide 8 Try.f8 rfl rfl rfl rfl rfl rfl rfl ⟨rfl, rfl, rfl, rfl, rfl⟩ rfl rfl rfl rfl rfl (by kernel_rfl) Try.func8 (by kernel_rfl)
    (of_decide_eq_true (by kernel_rfl)) (by unfold Func.isWrapper; first | (rw [if_pos (by decide +kernel)]; kernel_rfl) | (rw [if_neg (by decide +kernel)]; exact ⟨rfl, rfl⟩))
    (fun os started H enc _ => hulls_of_hulls_lifted os started H enc)
#print axioms hulls_of_hulls
end Go.Proofs.Ythdegeidcjdkeaa
