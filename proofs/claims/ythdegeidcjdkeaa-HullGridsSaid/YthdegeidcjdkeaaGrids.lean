/-
  The law HullGrids returns true for all arguments; no condition.
-/
import Derived.Test.YthdegeidcjdkeaaHulls
import Derived.Test.YthdegeidcjdkeaaLw5
set_option maxRecDepth 100000
namespace Go.Proofs.Ythdegeidcjdkeaa
open Go.ChangeShapes Go.WideShapes Go.ChangeAt Go.RowKit Go.Skm Go.Skm.Hull

theorem grids_lifted (os : Os) (started : os.Started) (H : Type) (enc : TypeId × Value → H) :
    ReturnsInHanded {} Try.checked os 7 .any (Rows.hullGridsSpec.pre6 enc Try.prog Try.f7 Rows.hullGridsRow.domain false) (Rows.hullGridsSpec.post enc Try.prog Try.f7 false true false false) := by
  refine returnsInHanded_of_change (C := Try.checked) own started (by kernel_rfl) Try.func7
    (ChangeSpec.witness6 (enc := enc) (C := Try.checked) false ⟨#[], #[.int .i64 0, .int .i64 0, .int .i64 0], []⟩ 8 (by kernel_rfl) (by kernel_rfl) (by kernel_rfl) (by kernel_rfl)) ?_
  intro W base args ds gs before hval0 hW hcnd _
  have hlen : ∃ d d' d'', ds = [d, d', d''] := by
    obtain ⟨p, q, hA0, hV, -⟩ := hW
    have hA : DataW.TrodAll enc Try.prog W 0 (fun _ => true) true Try.f7.params.toList args.toList ds p := hA0
    rw [Try.params7] at hA
    obtain ⟨v0, v1, v2, d0, d1, d2, p0, p1, p2, h1, h2, h3⟩ := trodAll_three hA
    exact ⟨d0, d1, d2, h2⟩
  refine law_of tabOk extSort (f := 7) (fi := fi7) (by kernel_rfl) (fn := Try.f7) rfl (tb := 4) rfl rfl Try.underlying4 rfl hval0 hW (by kernel_rfl) ?_ ?_
  · obtain ⟨d, d', d'', rfl⟩ := hlen
    rfl
  · intro xs hxs
    have hp : Try.f7.params.toList = [3, 3, 3] := rfl
    rw [hp] at hxs
    obtain ⟨x, ys, v, us, rfl, -, h1, h2, h3, hr⟩ := hxs.one
    obtain ⟨y, zs, v', us', rfl, -, k1, k2, k3, hr⟩ := hr.one
    obtain ⟨z, zz, v'', us'', rfl, -, j1, j2, j3, hr⟩ := hr.one
    have := hr.none
    subst this
    obtain ⟨r, rfl, -⟩ := int_arg (by kernel_rfl) h2 h3
    obtain ⟨c, rfl, -⟩ := int_arg (by kernel_rfl) k2 k3
    obtain ⟨s, rfl, -⟩ := int_arg (by kernel_rfl) j2 j3
    exact law7 sortX sortX_none sortOk r c s

theorem hulls_of_grids : Rows.HullGridsSaid :=
  OpenClaim.holds_of_wide 7 Try.f7 rfl rfl rfl rfl rfl rfl rfl ⟨rfl, rfl, rfl, rfl, rfl⟩ rfl rfl rfl rfl rfl (by kernel_rfl) Try.func7 (by kernel_rfl)
    (of_decide_eq_true (by kernel_rfl)) (by unfold Func.isWrapper; first | (rw [if_pos (by decide +kernel)]; kernel_rfl) | (rw [if_neg (by decide +kernel)]; exact ⟨rfl, rfl⟩))
    (fun os started H enc _ => grids_lifted os started H enc)
#print axioms hulls_of_grids
end Go.Proofs.Ythdegeidcjdkeaa
