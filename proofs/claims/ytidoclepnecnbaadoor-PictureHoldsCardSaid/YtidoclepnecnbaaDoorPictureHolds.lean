/-
  The law PictureHolds returns true for all arguments, and its card; condition: the listed variables hold what the row lists.
-/
import Derived.Test.YtidoclepnecnbaaDoorExt
import Derived.Test.YtidoclepnecnbaaDoorCards
import Derived.Test.YtidoclepnecnbaaDoorTie
import Derived.Test.YtidoclepnecnbaaDoorP26
import Derived.ProofKit
import Derived.Lay
import Derived.SevenTiedAt
import Derived.JoinedOf
set_option maxRecDepth 100000
namespace Go.Proofs.YtidoclepnecnbaaDoor
open Go.ChangeShapes Go.WideShapes Go.ChangeAt Go.RowKit Go.Skm Go.Skm.Pic
theorem own9 : ownKnob Tryd.prog.godebug = none := by kernel_rfl
theorem Holds_lifted (os : Os) (started : os.Started) (H : Type) (enc : TypeId × Value → H) :
    ReturnsInHanded {} Tryd.checked os 9 .any (fun w args => (Rows.pictureHoldsSpec.pre enc Tryd.prog Tryd.f9 Rows.pictureHoldsRow.domain false w args ∧ laidMetH Tryd.prog laidL w) ∧ sizedMet enc Tryd.prog Tryd.f9 (OpenSpec.ofChange Rows.pictureHoldsSpec) false w args)
      (Rows.pictureHoldsSpec.post enc Tryd.prog Tryd.f9 false true false false) := by
  refine returnsInHanded_laid (C := Tryd.checked) (X := fun w _ => laidMetH Tryd.prog laidL w) (fun _ _ _ hh h => h.of_heap hh) own9 started (by kernel_rfl) Tryd.func9
    (ChangeSpec.witness_shaped (enc := enc) (C := Tryd.checked) (os := os) (X := fun w _ => laidMetH Tryd.prog laidL w) false (World.laidAll Tryd.prog os laidL) #[.agg #[.int .i64 0, .int .i64 0, .int .u8 0, .int .u8 0, .int .u8 0, .slice none 0 0], .agg #[.int .i64 0, .int .i64 0, .int .u8 0, .int .u8 0, .int .u8 0, .slice none 0 0], .int .i64 0, .int .i64 0, .int .i64 0, .int .i64 0, .int .i64 0, .int .i64 0] 8 (World.laidAll_os _ _ _)
      (World.shaped_of_ZipB (by kernel_rfl) (by kernel_rfl)) (by kernel_rfl) (by kernel_rfl) (by kernel_rfl)
      (by rw [MakeChecks.laidMetH_plain _ _ _ (by kernel_rfl)]; exact laidMet_laidAll _ (by kernel_rfl) (by kernel_rfl))) ?_
  intro W base args ds gs before hval0 hW hL hS
  have hlen := whole_len hW
  refine law_of tabTrue (libExt hL hS) (f := 9) (fi := fi9) (by kernel_rfl) (fn := Tryd.f9) rfl (tb := 4) rfl rfl Tryd.underlying4 rfl hval0 hW (by kernel_rfl) ?_ glOf_ok ?_
  · obtain ⟨d0, d1, d2, d3, d4, d5, d6, d7, rfl⟩ : ∃ d0 d1 d2 d3 d4 d5 d6 d7, ds = [d0, d1, d2, d3, d4, d5, d6, d7] := by
      match ds, hlen with
      | [d0, d1, d2, d3, d4, d5, d6, d7], _ => exact ⟨d0, d1, d2, d3, d4, d5, d6, d7, rfl⟩
    rfl
  · intro xs hxs
    have hp : Tryd.f9.params.toList = [26, 26, 3, 3, 3, 3, 3, 3] := rfl
    rw [hp] at hxs
    obtain ⟨x0, xs0, v0, vs0, rfl, a0, b0, c0, r0⟩ := args_cons hxs
    obtain ⟨x1, xs1, v1, vs1, rfl, a1, b1, c1, r1⟩ := args_cons r0
    obtain ⟨x2, xs2, v2, vs2, rfl, a2, b2, c2, r2⟩ := args_cons r1
    obtain ⟨x3, xs3, v3, vs3, rfl, a3, b3, c3, r3⟩ := args_cons r2
    obtain ⟨x4, xs4, v4, vs4, rfl, a4, b4, c4, r4⟩ := args_cons r3
    obtain ⟨x5, xs5, v5, vs5, rfl, a5, b5, c5, r5⟩ := args_cons r4
    obtain ⟨x6, xs6, v6, vs6, rfl, a6, b6, c6, r6⟩ := args_cons r5
    obtain ⟨x7, xs7, v7, vs7, rfl, a7, b7, c7, r7⟩ := args_cons r6
    have hn := args_nil r7
    subst hn
    obtain ⟨p0, rfl, hp0⟩ := pic_arg (by kernel_rfl) a0 b0 c0
    obtain ⟨p1, rfl, hp1⟩ := pic_arg (by kernel_rfl) a1 b1 c1
    obtain ⟨n2, rfl, hn2⟩ := arg_in64 (by kernel_rfl) b2 c2
    obtain ⟨n3, rfl, hn3⟩ := arg_in64 (by kernel_rfl) b3 c3
    obtain ⟨n4, rfl, hn4⟩ := arg_in64 (by kernel_rfl) b4 c4
    obtain ⟨n5, rfl, hn5⟩ := arg_in64 (by kernel_rfl) b5 c5
    obtain ⟨n6, rfl, hn6⟩ := arg_in64 (by kernel_rfl) b6 c6
    obtain ⟨n7, rfl, hn7⟩ := arg_in64 (by kernel_rfl) b7 c7
    exact law9 libX libMine libKnown p0 p1 hp0.len hp1.len n2 n3 n4 n5 n6 n7 hn2 hn3
theorem Holds_holds : Rows.PictureHoldsSaid :=
  OpenClaim.holds_of_wide 9 Tryd.f9 rfl rfl rfl rfl rfl rfl rfl ⟨rfl, rfl, rfl, rfl, rfl⟩ rfl rfl rfl rfl rfl (by kernel_rfl) Tryd.func9 (by kernel_rfl)
    (of_decide_eq_true (by kernel_rfl)) (by unfold Func.isWrapper; first | (rw [if_pos (by decide +kernel)]; kernel_rfl) | (rw [if_neg (by decide +kernel)]; exact ⟨rfl, rfl⟩))
    (fun os started H enc _ => Holds_lifted os started H enc)
theorem Holds_card : Rows.PictureHoldsCardSaid :=
  Claim7.holds_tied_plain_at .later [] [.data, .data, .data, .data, .sentinel, .sentinel, .pinned] true (true, "4a73c6b10b3f205bc942b312ac3fded57b52f79e25111282e1cf45213f0e22d0") true
    Holds_holds (fun _ h => by cases h) (by kernel_rfl) (fun _ h => by cases h) pictureHolds_row_tie rfl ⟨rfl, rfl⟩ (by kernel_rfl) rfl
    (fun f fn hf hfn => by
      obtain rfl : f = 9 := Option.some.inj ((show Tryd.prog.funcNamed "skylantern/skylanternlaw32.PictureHolds" = some 9 by kernel_rfl).symm.trans hf) |>.symm
      obtain rfl : fn = Tryd.f9 := (Option.some.inj (Tryd.func9.symm.trans hfn)).symm
      refine ⟨by kernel_rfl, fun j t ht => ?_⟩
      have h : (Tryd.f9.params.toList.all fun t => !Tryd.prog.wantsStandIn t) = true := by kernel_rfl
      have hm : t ∈ Tryd.f9.params.toList := List.mem_iff_getElem?.2 ⟨j, by rw [Array.getElem?_toList]; exact ht⟩
      have := List.all_eq_true.1 h t hm
      have h2 : Tryd.prog.wantsStandIn t = false := by simpa using this
      exact h2)
    (by kernel_rfl)
#print axioms Holds_card
end Go.Proofs.YtidoclepnecnbaaDoor
