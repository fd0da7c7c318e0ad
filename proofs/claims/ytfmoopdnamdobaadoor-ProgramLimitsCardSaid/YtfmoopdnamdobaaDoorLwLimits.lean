/-
  The law ProgramLimits returns true for all arguments, and its card; condition: the listed variables hold what the row lists.
-/
import Derived.Test.YtfmoopdnamdobaaDoorExt
import Derived.Test.YtfmoopdnamdobaaDoorCards
import Derived.Test.YtfmoopdnamdobaaDoorTie
import Derived.Test.YtfmoopdnamdobaaDoorArgs
import Derived.Test.YtfmoopdnamdobaaDoorP14
import Derived.ProofKit
import Derived.Lay
import Derived.SevenTiedAt
import Derived.JoinedOf
set_option maxRecDepth 100000
namespace Go.Proofs.YtfmoopdnamdobaaDoor
open Go.ChangeShapes Go.WideShapes Go.ChangeAt Go.RowKit Go.Skm Go.Skm.Prg
theorem own3:ownKnob Tryd.prog.godebug=none:=by kernel_rfl
theorem Limits_lifted (os : Os) (started : os.Started) (H : Type) (enc : TypeId × Value → H) :
    ReturnsInHanded {} Tryd.checked os 3 .any (fun w args=>(Rows.programLimitsSpec.pre enc Tryd.prog Tryd.f3 Rows.programLimitsRow.domain false w args∧laidMetH Tryd.prog laidL w)∧sizedMet enc Tryd.prog Tryd.f3 (OpenSpec.ofChange Rows.programLimitsSpec) false w args)
     (Rows.programLimitsSpec.post enc Tryd.prog Tryd.f3 false true false false):=by
  refine returnsInHanded_laid (C:=Tryd.checked) (X:=fun w _=>laidMetH Tryd.prog laidL w) (fun _ _ _ hh h=>h.of_heap hh) own3 started (by kernel_rfl) Tryd.func3
   (ChangeSpec.witness_shaped (enc:=enc) (C:=Tryd.checked) (os:=os) (X:=fun w _=>laidMetH Tryd.prog laidL w) false (World.laidAll Tryd.prog os laidL) #[.int .i64 0,.int .i64 0] 8 (World.laidAll_os _ _ _)
     (World.shaped_of_ZipB (by kernel_rfl) (by kernel_rfl)) (by kernel_rfl) (by kernel_rfl) (by kernel_rfl)
     (by rw[MakeChecks.laidMetH_plain _ _ _ (by kernel_rfl)];exact laidMet_laidAll _ (by kernel_rfl) (by kernel_rfl))) ?_
  intro W base args ds gs before hval0 hW hL hS
  have hlen:=whole_len hW
  refine law_of tabTrue (libExt hL hS) (f:=3) (fi:=fi3) (by kernel_rfl) (fn:=Tryd.f3) rfl (tb:=4) rfl rfl Tryd.underlying4 rfl hval0 hW (by kernel_rfl) ?_ glOf_ok ?_
  · obtain ⟨d0,d1,rfl⟩ : ∃ d0 d1,ds = [d0,d1] := by
      match ds,hlen with
      | [d0,d1],_=>exact⟨d0,d1,rfl⟩
    rfl
  · intro xs hxs
    have hp:Tryd.f3.params.toList=[3,3]:=rfl
    rw[hp]at hxs
    obtain⟨x0,xs0,v0,vs0,rfl,a0,b0,c0,r0⟩:=args_cons hxs
    obtain⟨x1,xs1,v1,vs1,rfl,a1,b1,c1,r1⟩:=args_cons r0
    have hn:=args_nil r1
    subst hn
    obtain⟨n0,rfl,hn0⟩:=arg_num (by kernel_rfl) b0 c0
    obtain⟨n1,rfl,hn1⟩:=arg_num (by kernel_rfl) b1 c1
    exact law3 libX libMine libClones libKnown n0 n1
theorem Limits_holds:Rows.ProgramLimitsSaid :=
 OpenClaim.holds_of_wide 3 Tryd.f3 rfl rfl rfl rfl rfl rfl rfl ⟨rfl,rfl,rfl,rfl,rfl⟩ rfl rfl rfl rfl rfl (by kernel_rfl) Tryd.func3 (by kernel_rfl)
  (of_decide_eq_true (by kernel_rfl)) (by unfold Func.isWrapper;first | (rw[if_pos (by decide +kernel)];kernel_rfl) | (rw[if_neg (by decide +kernel)];exact⟨rfl,rfl⟩))
  (fun os started H enc _=>Limits_lifted os started H enc)
theorem Limits_card:Rows.ProgramLimitsCardSaid :=
 Claim7.holds_tied_plain_at .later [] [.data, .data, .data] true (true, "8cbd782178bbc0f2157c2a9ac2f6277b6ab0221e4ce15bf6d050e24b0b489243") false
  Limits_holds (fun _ h=>by cases h) (by kernel_rfl) (fun _ h=>by cases h) programLimits_row_tie rfl ⟨rfl,rfl⟩ (by kernel_rfl) rfl
  (fun f fn hf hfn=>by
    obtain rfl : f = 3 := Option.some.inj ((show Tryd.prog.funcNamed "skylantern/skylanternlaw25.ProgramLimits" = some 3 by kernel_rfl).symm.trans hf) |>.symm
    obtain rfl:fn=Tryd.f3:=(Option.some.inj (Tryd.func3.symm.trans hfn)).symm
    refine⟨by kernel_rfl,fun j t ht=>?_⟩
    have h:(Tryd.f3.params.toList.all fun t=>!Tryd.prog.wantsStandIn t)=true:=by kernel_rfl
    have hm:t∈Tryd.f3.params.toList:=List.mem_iff_getElem?.2 ⟨j,by rw[Array.getElem?_toList];exact ht⟩
    have:=List.all_eq_true.1 h t hm
    have h2:Tryd.prog.wantsStandIn t=false:=by simpa using this
    exact h2)
  (by kernel_rfl)
#print axioms Limits_card
end Go.Proofs.YtfmoopdnamdobaaDoor
