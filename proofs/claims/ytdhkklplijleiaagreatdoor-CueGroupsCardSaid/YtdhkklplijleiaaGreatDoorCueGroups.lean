/-
  The law CueGroups returns true for all arguments, and its card; condition: the listed variables hold what the row lists.
-/
import Derived.Test.YtdhkklplijleiaaGreatDoorExt
import Derived.Test.YtdhkklplijleiaaGreatDoorCards
import Derived.Test.YtdhkklplijleiaaGreatDoorTie
import Derived.ProofKit
import Derived.Lay
import Derived.SevenTiedAt
import Derived.JoinedOf
set_option maxRecDepth 100000
namespace Go.Proofs.YtdhkklplijleiaaGreatDoor
open Go.ChangeShapes Go.WideShapes Go.ChangeAt Go.RowKit Go.Skm Go.Skm.Cue
theorem own7 : ownKnob Tryz.prog.godebug = none := by kernel_rfl
theorem Groups_lifted (os : Os) (started : os.Started) (H : Type) (enc : TypeId × Value → H) :
    ReturnsInHanded {} Tryz.checked os 7 .any (fun w args => (Rows.cueGroupsSpec.pre enc Tryz.prog Tryz.f7 Rows.cueGroupsRow.domain false w args ∧ laidMetH Tryz.prog laidL w) ∧ sizedMet enc Tryz.prog Tryz.f7 (OpenSpec.ofChange Rows.cueGroupsSpec) false w args)
      (Rows.cueGroupsSpec.post enc Tryz.prog Tryz.f7 false true false false) := by
  refine returnsInHanded_laid (C := Tryz.checked) (X := fun w _ => laidMetH Tryz.prog laidL w) (fun _ _ _ hh h => h.of_heap hh) own7 started (by kernel_rfl) Tryz.func7
    (ChangeSpec.witness_shaped (enc := enc) (C := Tryz.checked) (os := os) (X := fun w _ => laidMetH Tryz.prog laidL w) false (World.laidAll Tryz.prog os laidL) #[.slice none 0 0, .string ByteArray.empty] 8 (World.laidAll_os _ _ _)
      (World.shaped_of_ZipB (by kernel_rfl) (by kernel_rfl)) (by kernel_rfl) (by kernel_rfl) (by kernel_rfl)
      (by rw [MakeChecks.laidMetH_plain _ _ _ (by kernel_rfl)]; exact laidMet_laidAll _ (by kernel_rfl) (by kernel_rfl))) ?_
  intro W base args ds gs before hval0 hW hL hS
  have hlen := whole_len hW
  refine law_of tabOk (libExt hL hS) (f := 7) (fi := fi7) (by kernel_rfl) (fn := Tryz.f7) rfl (tb := 4) rfl rfl Tryz.underlying4 rfl hval0 hW (by kernel_rfl) ?_ glOf_ok ?_
  · obtain ⟨d0, d1, rfl⟩ : ∃ d0 d1, ds = [d0, d1] := by
      match ds, hlen with
      | [d0, d1], _ => exact ⟨d0, d1, rfl⟩
    rfl
  · intro xs hxs
    have hp : Tryz.f7.params.toList = [33, 9] := rfl
    rw [hp] at hxs
    obtain ⟨x0, xs0, v0, vs0, rfl, a0, b0, c0, r0⟩ := args_cons hxs
    obtain ⟨x1, xs1, v1, vs1, rfl, a1, b1, c1, r1⟩ := args_cons r0
    have hn := args_nil r1
    subst hn
    obtain ⟨l, rfl, ho, hl⟩ := cus_arg (by kernel_rfl) a0 b0 c0
    obtain ⟨s, rfl, hs⟩ := arg_ba (by kernel_rfl) b1 c1
    exact law7 libX libMine libKnown libTexts libSortS l ho hl s hs
theorem Groups_holds : Rows.CueGroupsSaid :=
  OpenClaim.holds_of_wide 7 Tryz.f7 rfl rfl rfl rfl rfl rfl rfl ⟨rfl, rfl, rfl, rfl, rfl⟩ rfl rfl rfl rfl rfl (by kernel_rfl) Tryz.func7 (by kernel_rfl)
    (of_decide_eq_true (by kernel_rfl)) (by unfold Func.isWrapper; first | (rw [if_pos (by decide +kernel)]; kernel_rfl) | (rw [if_neg (by decide +kernel)]; exact ⟨rfl, rfl⟩))
    (fun os started H enc _ => Groups_lifted os started H enc)
theorem Groups_card : Rows.CueGroupsCardSaid :=
  Claim7.holds_tied_plain_at .later [] [.data, .data, .data, .data, .sentinel, .sentinel, .pinned] true (true, "d75e2b97ce9b9e5d5ba94252aaea78aaa084d5039600cc0bec0915de9e0e1433") true
    Groups_holds (fun _ h => by cases h) (by kernel_rfl) (fun _ h => by cases h) cueGroups_row_tie rfl ⟨rfl, rfl⟩ (by kernel_rfl) rfl
    (fun f fn hf hfn => by
      obtain rfl : f = 7 := Option.some.inj ((show Tryz.prog.funcNamed "skylantern/skylanternlaw28.CueGroups" = some 7 by kernel_rfl).symm.trans hf) |>.symm
      obtain rfl : fn = Tryz.f7 := (Option.some.inj (Tryz.func7.symm.trans hfn)).symm
      refine ⟨by kernel_rfl, fun j t ht => ?_⟩
      have h : (Tryz.f7.params.toList.all fun t => !Tryz.prog.wantsStandIn t) = true := by kernel_rfl
      have hm : t ∈ Tryz.f7.params.toList := List.mem_iff_getElem?.2 ⟨j, by rw [Array.getElem?_toList]; exact ht⟩
      have := List.all_eq_true.1 h t hm
      have h2 : Tryz.prog.wantsStandIn t = false := by simpa using this
      exact h2)
    (by kernel_rfl)
#print axioms Groups_card
end Go.Proofs.YtdhkklplijleiaaGreatDoor
