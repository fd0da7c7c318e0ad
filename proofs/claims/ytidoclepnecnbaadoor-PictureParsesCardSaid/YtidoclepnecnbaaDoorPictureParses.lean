/-
  The law PictureParses returns true for all arguments, and its card; condition: the listed variables hold what the row lists.
-/
import Derived.Test.YtidoclepnecnbaaDoorExt
import Derived.Test.YtidoclepnecnbaaDoorCards
import Derived.Test.YtidoclepnecnbaaDoorTie
import Derived.Test.YtidoclepnecnbaaDoorP25
import Derived.ProofKit
import Derived.Lay
import Derived.SevenTiedAt
import Derived.JoinedOf
set_option maxRecDepth 100000
namespace Go.Proofs.YtidoclepnecnbaaDoor
open Go.ChangeShapes Go.WideShapes Go.ChangeAt Go.RowKit Go.Skm Go.Skm.Pic
theorem own5 : ownKnob Tryd.prog.godebug = none := by kernel_rfl
theorem Parses_lifted (os : Os) (started : os.Started) (H : Type) (enc : TypeId × Value → H) :
    ReturnsInHanded {} Tryd.checked os 5 .any (fun w args => (Rows.pictureParsesSpec.pre enc Tryd.prog Tryd.f5 Rows.pictureParsesRow.domain false w args ∧ laidMetH Tryd.prog laidL w) ∧ sizedMet enc Tryd.prog Tryd.f5 (OpenSpec.ofChange Rows.pictureParsesSpec) false w args)
      (Rows.pictureParsesSpec.post enc Tryd.prog Tryd.f5 false true false false) := by
  refine returnsInHanded_laid (C := Tryd.checked) (X := fun w _ => laidMetH Tryd.prog laidL w) (fun _ _ _ hh h => h.of_heap hh) own5 started (by kernel_rfl) Tryd.func5
    (ChangeSpec.witness_shaped (enc := enc) (C := Tryd.checked) (os := os) (X := fun w _ => laidMetH Tryd.prog laidL w) false (World.laidAll Tryd.prog os laidL) #[.string ByteArray.empty] 8 (World.laidAll_os _ _ _)
      (World.shaped_of_ZipB (by kernel_rfl) (by kernel_rfl)) (by kernel_rfl) (by kernel_rfl) (by kernel_rfl)
      (by rw [MakeChecks.laidMetH_plain _ _ _ (by kernel_rfl)]; exact laidMet_laidAll _ (by kernel_rfl) (by kernel_rfl))) ?_
  intro W base args ds gs before hval0 hW hL hS
  have hlen := whole_len hW
  refine law_of tabTrue (libExt hL hS) (f := 5) (fi := fi5) (by kernel_rfl) (fn := Tryd.f5) rfl (tb := 4) rfl rfl Tryd.underlying4 rfl hval0 hW (by kernel_rfl) ?_ glOf_ok ?_
  · obtain ⟨d0, rfl⟩ : ∃ d0, ds = [d0] := by
      match ds, hlen with
      | [d0], _ => exact ⟨d0, rfl⟩
    rfl
  · intro xs hxs
    have hp : Tryd.f5.params.toList = [9] := rfl
    rw [hp] at hxs
    obtain ⟨x0, xs0, v0, vs0, rfl, a0, b0, c0, r0⟩ := args_cons hxs
    have hn := args_nil r0
    subst hn
    obtain ⟨s, rfl⟩ := arg_ba (by kernel_rfl) b0
    exact law5 libX libMine libTexts libKnown s
theorem Parses_holds : Rows.PictureParsesSaid :=
  OpenClaim.holds_of_wide 5 Tryd.f5 rfl rfl rfl rfl rfl rfl rfl ⟨rfl, rfl, rfl, rfl, rfl⟩ rfl rfl rfl rfl rfl (by kernel_rfl) Tryd.func5 (by kernel_rfl)
    (of_decide_eq_true (by kernel_rfl)) (by unfold Func.isWrapper; first | (rw [if_pos (by decide +kernel)]; kernel_rfl) | (rw [if_neg (by decide +kernel)]; exact ⟨rfl, rfl⟩))
    (fun os started H enc _ => Parses_lifted os started H enc)
theorem Parses_card : Rows.PictureParsesCardSaid :=
  Claim7.holds_tied_plain_at .later [] [.data, .data, .data, .data, .sentinel, .sentinel, .pinned] true (true, "4a73c6b10b3f205bc942b312ac3fded57b52f79e25111282e1cf45213f0e22d0") true
    Parses_holds (fun _ h => by cases h) (by kernel_rfl) (fun _ h => by cases h) pictureParses_row_tie rfl ⟨rfl, rfl⟩ (by kernel_rfl) rfl
    (fun f fn hf hfn => by
      obtain rfl : f = 5 := Option.some.inj ((show Tryd.prog.funcNamed "skylantern/skylanternlaw32.PictureParses" = some 5 by kernel_rfl).symm.trans hf) |>.symm
      obtain rfl : fn = Tryd.f5 := (Option.some.inj (Tryd.func5.symm.trans hfn)).symm
      refine ⟨by kernel_rfl, fun j t ht => ?_⟩
      have h : (Tryd.f5.params.toList.all fun t => !Tryd.prog.wantsStandIn t) = true := by kernel_rfl
      have hm : t ∈ Tryd.f5.params.toList := List.mem_iff_getElem?.2 ⟨j, by rw [Array.getElem?_toList]; exact ht⟩
      have := List.all_eq_true.1 h t hm
      have h2 : Tryd.prog.wantsStandIn t = false := by simpa using this
      exact h2)
    (by kernel_rfl)
#print axioms Parses_card
end Go.Proofs.YtidoclepnecnbaaDoor
