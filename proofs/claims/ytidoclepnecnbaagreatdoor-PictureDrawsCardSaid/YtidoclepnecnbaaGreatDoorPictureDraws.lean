/-
  The law PictureDraws returns true for all arguments, and its card; condition: the listed variables hold what the row lists.
-/
import Derived.Test.YtidoclepnecnbaaGreatDoorExt
import Derived.Test.YtidoclepnecnbaaGreatDoorCards
import Derived.Test.YtidoclepnecnbaaGreatDoorTie
import Derived.Test.YtidoclepnecnbaaGreatDoorD11
import Derived.ProofKit
import Derived.Lay
import Derived.SevenTiedAt
import Derived.JoinedOf
set_option maxRecDepth 100000
namespace Go.Proofs.YtidoclepnecnbaaGreatDoor
open Go.ChangeShapes Go.WideShapes Go.ChangeAt Go.RowKit Go.Skm Go.Skm.Drw
theorem own3 : ownKnob Tryz.prog.godebug = none := by kernel_rfl
theorem Draws_lifted (os : Os) (started : os.Started) (H : Type) (enc : TypeId × Value → H) :
    ReturnsInHanded {} Tryz.checked os 3 .any (fun w args => (Rows.pictureDrawsSpec.pre enc Tryz.prog Tryz.f3 Rows.pictureDrawsRow.domain false w args ∧ laidMetH Tryz.prog laidL w) ∧ sizedMet enc Tryz.prog Tryz.f3 (OpenSpec.ofChange Rows.pictureDrawsSpec) false w args)
      (Rows.pictureDrawsSpec.post enc Tryz.prog Tryz.f3 false true false false) := by
  refine returnsInHanded_laid (C := Tryz.checked) (X := fun w _ => laidMetH Tryz.prog laidL w) (fun _ _ _ hh h => h.of_heap hh) own3 started (by kernel_rfl) Tryz.func3
    (ChangeSpec.witness_shaped (enc := enc) (C := Tryz.checked) (os := os) (X := fun w _ => laidMetH Tryz.prog laidL w) false (World.laidAll Tryz.prog os laidL) #[.agg #[.int .i64 0, .int .i64 0, .int .i64 0, .int .i64 0, .int .i64 0, .int .i64 0, .int .i64 0, .int .i64 0, .int .i64 0, .int .i64 0, .int .i64 0, .int .i64 0, .int .i64 0, .int .i64 0, .int .i64 0, .int .i64 0], .agg #[.int .u8 0, .int .u8 0, .int .u8 0], .slice none 0 0, .slice none 0 0, .int .i64 0] 8 (World.laidAll_os _ _ _)
      (World.shaped_of_ZipB (by kernel_rfl) (by kernel_rfl)) (by kernel_rfl) (by kernel_rfl) (by kernel_rfl)
      (by rw [MakeChecks.laidMetH_plain _ _ _ (by kernel_rfl)]; exact laidMet_laidAll _ (by kernel_rfl) (by kernel_rfl))) ?_
  intro W base args ds gs before hval0 hW hL hS
  have hlen := whole_len hW
  refine law_of tabTrue (libExt hL hS) (f := 3) (fi := fi3) (by kernel_rfl) (fn := Tryz.f3) rfl (tb := 4) rfl rfl Tryz.underlying4 rfl hval0 hW (by kernel_rfl) ?_ glOf_ok ?_
  · obtain ⟨d0, d1, d2, d3, d4, rfl⟩ : ∃ d0 d1 d2 d3 d4, ds = [d0, d1, d2, d3, d4] := by
      match ds, hlen with
      | [d0, d1, d2, d3, d4], _ => exact ⟨d0, d1, d2, d3, d4, rfl⟩
    rfl
  · intro xs hxs
    have hp : Tryz.f3.params.toList = [25, 27, 28, 29, 3] := rfl
    rw [hp] at hxs
    obtain ⟨x0, xs0, v0, vs0, rfl, a0, b0, c0, r0⟩ := args_cons hxs
    obtain ⟨x1, xs1, v1, vs1, rfl, a1, b1, c1, r1⟩ := args_cons r0
    obtain ⟨x2, xs2, v2, vs2, rfl, a2, b2, c2, r2⟩ := args_cons r1
    obtain ⟨x3, xs3, v3, vs3, rfl, a3, b3, c3, r3⟩ := args_cons r2
    obtain ⟨x4, xs4, v4, vs4, rfl, a4, b4, c4, r4⟩ := args_cons r3
    have hn := args_nil r4
    subst hn
    obtain ⟨c, rfl⟩ := cam_arg (by kernel_rfl) b0
    obtain ⟨r, g, b, rfl⟩ := col_arg (by kernel_rfl) b1
    obtain ⟨l, rfl⟩ := vecd_arg (by kernel_rfl) a2 b2 c2
    obtain ⟨cs, rfl⟩ := cols_arg (by kernel_rfl) a3 b3 c3
    obtain ⟨n4, rfl, hn4⟩ := arg_in64 (by kernel_rfl) b4 c4
    exact draw_law libX libMine libKnown c r g b l cs n4
theorem Draws_holds : Rows.PictureDrawsSaid :=
  OpenClaim.holds_of_wide 3 Tryz.f3 rfl rfl rfl rfl rfl rfl rfl ⟨rfl, rfl, rfl, rfl, rfl⟩ rfl rfl rfl rfl rfl (by kernel_rfl) Tryz.func3 (by kernel_rfl)
    (of_decide_eq_true (by kernel_rfl)) (by unfold Func.isWrapper; first | (rw [if_pos (by decide +kernel)]; kernel_rfl) | (rw [if_neg (by decide +kernel)]; exact ⟨rfl, rfl⟩))
    (fun os started H enc _ => Draws_lifted os started H enc)
theorem Draws_card : Rows.PictureDrawsCardSaid :=
  Claim7.holds_tied_plain_at .later [] [.data, .data, .data, .data, .sentinel, .sentinel, .pinned] true (true, "453fd326da9857b20f2f0c06b2a52409841d32da23a2dc4fa290ce187a477d4a") true
    Draws_holds (fun _ h => by cases h) (by kernel_rfl) (fun _ h => by cases h) pictureDraws_row_tie rfl ⟨rfl, rfl⟩ (by kernel_rfl) rfl
    (fun f fn hf hfn => by
      obtain rfl : f = 3 := Option.some.inj ((show Tryz.prog.funcNamed "skylantern/skylanternlaw32.PictureDraws" = some 3 by kernel_rfl).symm.trans hf) |>.symm
      obtain rfl : fn = Tryz.f3 := (Option.some.inj (Tryz.func3.symm.trans hfn)).symm
      refine ⟨by kernel_rfl, fun j t ht => ?_⟩
      have h : (Tryz.f3.params.toList.all fun t => !Tryz.prog.wantsStandIn t) = true := by kernel_rfl
      have hm : t ∈ Tryz.f3.params.toList := List.mem_iff_getElem?.2 ⟨j, by rw [Array.getElem?_toList]; exact ht⟩
      have := List.all_eq_true.1 h t hm
      have h2 : Tryz.prog.wantsStandIn t = false := by simpa using this
      exact h2)
    (by kernel_rfl)
#print axioms Draws_card
end Go.Proofs.YtidoclepnecnbaaGreatDoor
