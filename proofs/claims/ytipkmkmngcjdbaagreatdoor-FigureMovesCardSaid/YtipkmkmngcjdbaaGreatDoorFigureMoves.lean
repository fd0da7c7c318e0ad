/-
  The law FigureMoves returns true for all arguments, and its card; condition: the listed variables hold what the row lists.
-/
import Derived.Test.YtipkmkmngcjdbaaGreatDoorExt
import Derived.Test.YtipkmkmngcjdbaaGreatDoorCards
import Derived.Test.YtipkmkmngcjdbaaGreatDoorTie
import Derived.Test.YtipkmkmngcjdbaaGreatDoorMv6
import Derived.ProofKit
import Derived.Lay
import Derived.SevenTiedAt
import Derived.JoinedOf
set_option maxRecDepth 100000
namespace Go.Proofs.YtipkmkmngcjdbaaGreatDoor
open Go.ChangeShapes Go.WideShapes Go.ChangeAt Go.RowKit Go.Skm Go.Skm.Fig
theorem aja:ownKnob Tryz.prog.godebug=none:=by kernel_rfl
theorem O5 (os : Os) (started : os.Started) (H : Type) (enc : TypeId × Value → H) :
    ReturnsInHanded {} Tryz.checked os 6 .any (fun w args=>(Rows.figureMovesSpec.pre enc Tryz.prog Tryz.f6 Rows.figureMovesRow.domain false w args∧laidMetH Tryz.prog He w)∧sizedMet enc Tryz.prog Tryz.f6 (OpenSpec.ofChange Rows.figureMovesSpec) false w args)
     (Rows.figureMovesSpec.post enc Tryz.prog Tryz.f6 false true false false):=by
  refine Aq (C:=Tryz.checked) (X:=fun w _=>laidMetH Tryz.prog He w) (fun _ _ _ hh h=>h.of_heap hh) aja started (by kernel_rfl) Tryz.func6
   (ChangeSpec.witness_shaped (enc:=enc) (C:=Tryz.checked) (os:=os) (X:=fun w _=>laidMetH Tryz.prog He w) false (World.laidAll Tryz.prog os He) #[.slice none 0 0,.agg #[.int .i64 0,.int .i64 0,.int .i64 0]] 8 (World.laidAll_os _ _ _)
     (World.shaped_of_ZipB (by kernel_rfl) (by kernel_rfl)) (by kernel_rfl) (by kernel_rfl) (by kernel_rfl)
     (by rw[MakeChecks.laidMetH_plain _ _ _ (by kernel_rfl)];exact laidMet_laidAll _ (by kernel_rfl) (by kernel_rfl))) ?_
  intro W base args ds gs before hval0 hW hL hS
  have hlen:=W9 hW
  refine Ub (f:=6) (fn:=Tryz.f6) (tb:=4) rfl Tryz.underlying4 rfl hval0 hW (by kernel_rfl) ?_ ?_
  · obtain ⟨d0,d1,rfl⟩ : ∃ d0 d1,ds = [d0,d1] := by
      match ds,hlen with
      | [d0,d1],_=>exact⟨d0,d1,rfl⟩
    rfl
  · intro xs hxs
    exact Xa (NI Vh (aci hL hS)) Vo YC aaL hxs
theorem QO:Rows.FigureMovesSaid :=
 OpenClaim.holds_of_wide 6 Tryz.f6 rfl rfl rfl rfl rfl rfl rfl ⟨rfl,rfl,rfl,rfl,rfl⟩ rfl rfl rfl rfl rfl (by kernel_rfl) Tryz.func6 (by kernel_rfl)
  (of_decide_eq_true (by kernel_rfl)) (by unfold Func.isWrapper;first | (rw[if_pos (by decide +kernel)];kernel_rfl) | (rw[if_neg (by decide +kernel)];exact⟨rfl,rfl⟩))
  (fun os started H enc _=>O5 os started H enc)
theorem Moves_card:Rows.FigureMovesCardSaid :=
 Claim7.holds_tied_plain_at .later [] [.data, .data, .data, .data, .sentinel, .sentinel, .pinned] true (true, "34c9c32b4c0deb639a896b593c2ce2797db3f17d3004651e140e39d97f693e6d") true
  QO (fun _ h=>by cases h) (by kernel_rfl) (fun _ h=>by cases h) figureMoves_row_tie rfl ⟨rfl,rfl⟩ (by kernel_rfl) rfl
  (fun f fn hf hfn=>by
    obtain rfl : f = 6 := Option.some.inj ((show Tryz.prog.funcNamed "skylantern/skylanternlaw09.FigureMoves" = some 6 by kernel_rfl).symm.trans hf) |>.symm
    obtain rfl:fn=Tryz.f6:=(Option.some.inj (Tryz.func6.symm.trans hfn)).symm
    refine⟨by kernel_rfl,fun j t ht=>?_⟩
    have h:(Tryz.f6.params.toList.all fun t=>!Tryz.prog.wantsStandIn t)=true:=by kernel_rfl
    have hm:t∈Tryz.f6.params.toList:=List.mem_iff_getElem?.2 ⟨j,by rw[Array.getElem?_toList];exact ht⟩
    have:=List.all_eq_true.1 h t hm
    have h2:Tryz.prog.wantsStandIn t=false:=by simpa using this
    exact h2)
  (by kernel_rfl)
#print axioms Moves_card
end Go.Proofs.YtipkmkmngcjdbaaGreatDoor
