import Derived.Test.YtfmoopdnamdobaaDoorV11
import Derived.Test.YtfmoopdnamdobaaDoorCards
import Derived.Test.YtfmoopdnamdobaaDoorTie
import Derived.ProofKit
import Derived.Lay
import Derived.SevenTiedAt
import Derived.JoinedOf
set_option maxRecDepth 100000
namespace Go.Proofs.YtfmoopdnamdobaaDoor
open Go.ChangeShapes Go.WideShapes Go.ChangeAt Go.RowKit Go.Skm Go.Skm.Prg
theorem ajK:ownKnob Tryd.prog.godebug=none:=by kernel_rfl
theorem P6 (os : Os) (started : os.Started) (H : Type) (enc : TypeId × Value → H) :
    ReturnsInHanded {} Tryd.checked os 7 .any (fun w args=>(Rows.programValidSpec.pre enc Tryd.prog Tryd.f7 Rows.programValidRow.domain false w args∧laidMetH Tryd.prog Oz w)∧sizedMet enc Tryd.prog Tryd.f7 (OpenSpec.ofChange Rows.programValidSpec) false w args)
     (Rows.programValidSpec.post enc Tryd.prog Tryd.f7 false true false false):=by
  refine Bh (C:=Tryd.checked) (X:=fun w _=>laidMetH Tryd.prog Oz w) (fun _ _ _ hh h=>h.of_heap hh) ajK started (by kernel_rfl) Tryd.func7
   (ChangeSpec.witness_shaped (enc:=enc) (C:=Tryd.checked) (os:=os) (X:=fun w _=>laidMetH Tryd.prog Oz w) false (World.laidAll Tryd.prog os Oz) #[.agg #[.slice none 0 0,.slice none 0 0,.slice none 0 0],.agg #[.slice none 0 0,.slice none 0 0,.slice none 0 0]] 8 (World.laidAll_os _ _ _)
     (World.shaped_of_ZipB (by kernel_rfl) (by kernel_rfl)) (by kernel_rfl) (by kernel_rfl) (by kernel_rfl)
     (by rw[MakeChecks.laidMetH_plain _ _ _ (by kernel_rfl)];exact laidMet_laidAll _ (by kernel_rfl) (by kernel_rfl))) ?_
  intro W base args ds gs before hval0 hW hL hS
  have hlen:=Xo hW
  refine UC (f:=7) (fn:=Tryd.f7) (tb:=4) rfl Tryd.underlying4 rfl hval0 hW (by kernel_rfl) ?_ ?_
  · obtain ⟨d0,d1,rfl⟩ : ∃ d0 d1,ds = [d0,d1] := by
      match ds,hlen with
      | [d0,d1],_=>exact⟨d0,d1,rfl⟩
    rfl
  · intro xs hxs
    exact Xp (OB PY (ac1 hL hS)) VU Oy Y1 aa8 hxs
theorem RV:Rows.ProgramValidSaid :=
 OpenClaim.holds_of_wide 7 Tryd.f7 rfl rfl rfl rfl rfl rfl rfl ⟨rfl,rfl,rfl,rfl,rfl⟩ rfl rfl rfl rfl rfl (by kernel_rfl) Tryd.func7 (by kernel_rfl)
  (of_decide_eq_true (by kernel_rfl)) (by unfold Func.isWrapper;first | (rw[if_pos (by decide +kernel)];kernel_rfl) | (rw[if_neg (by decide +kernel)];exact⟨rfl,rfl⟩))
  (fun os started H enc _=>P6 os started H enc)
theorem Valid_card:Rows.ProgramValidCardSaid :=
 Claim7.holds_tied_plain_at .later [] [.data, .data, .data] true (true, "8cbd782178bbc0f2157c2a9ac2f6277b6ab0221e4ce15bf6d050e24b0b489243") false
  RV (fun _ h=>by cases h) (by kernel_rfl) (fun _ h=>by cases h) programValid_row_tie rfl ⟨rfl,rfl⟩ (by kernel_rfl) rfl
  (fun f fn hf hfn=>by
    obtain rfl : f = 7 := Option.some.inj ((show Tryd.prog.funcNamed "skylantern/skylanternlaw25.ProgramValid" = some 7 by kernel_rfl).symm.trans hf) |>.symm
    obtain rfl:fn=Tryd.f7:=(Option.some.inj (Tryd.func7.symm.trans hfn)).symm
    refine⟨by kernel_rfl,fun j t ht=>?_⟩
    have h:(Tryd.f7.params.toList.all fun t=>!Tryd.prog.wantsStandIn t)=true:=by kernel_rfl
    have hm:t∈Tryd.f7.params.toList:=List.mem_iff_getElem?.2 ⟨j,by rw[Array.getElem?_toList];exact ht⟩
    have:=List.all_eq_true.1 h t hm
    have h2:Tryd.prog.wantsStandIn t=false:=by simpa using this
    exact h2)
  (by kernel_rfl)
#print axioms Valid_card
end Go.Proofs.YtfmoopdnamdobaaDoor
