/-
  The law ProgramFinds returns true for all arguments, and its card; condition: the listed variables hold what the row lists.
-/
import Derived.Test.YtfmoopdnamdobaaDoorExt
import Derived.Test.YtfmoopdnamdobaaDoorCards
import Derived.Test.YtfmoopdnamdobaaDoorTie
import Derived.Test.YtfmoopdnamdobaaDoorArgs
import Derived.ProofKit
import Derived.Lay
import Derived.SevenTiedAt
import Derived.JoinedOf
set_option maxRecDepth 100000
namespace Go.Proofs.YtfmoopdnamdobaaDoor
open Go.ChangeShapes Go.WideShapes Go.ChangeAt Go.RowKit Go.Skm Go.Skm.Prg
theorem own4:ownKnob Tryd.prog.godebug=none:=by kernel_rfl
theorem Finds_lifted (os : Os) (started : os.Started) (H : Type) (enc : TypeId × Value → H) :
    ReturnsInHanded {} Tryd.checked os 4 .any (fun w args=>(Rows.programFindsSpec.pre enc Tryd.prog Tryd.f4 Rows.programFindsRow.domain false w args∧laidMetH Tryd.prog laidL w)∧sizedMet enc Tryd.prog Tryd.f4 (OpenSpec.ofChange Rows.programFindsSpec) false w args)
     (Rows.programFindsSpec.post enc Tryd.prog Tryd.f4 false true false false):=by
  refine returnsInHanded_laid (C:=Tryd.checked) (X:=fun w _=>laidMetH Tryd.prog laidL w) (fun _ _ _ hh h=>h.of_heap hh) own4 started (by kernel_rfl) Tryd.func4
   (ChangeSpec.witness_shaped (enc:=enc) (C:=Tryd.checked) (os:=os) (X:=fun w _=>laidMetH Tryd.prog laidL w) false (World.laidAll Tryd.prog os laidL) #[.agg #[.slice none 0 0,.slice none 0 0,.slice none 0 0],.int .i64 0,.int .i64 0,.string ByteArray.empty] 8 (World.laidAll_os _ _ _)
     (World.shaped_of_ZipB (by kernel_rfl) (by kernel_rfl)) (by kernel_rfl) (by kernel_rfl) (by kernel_rfl)
     (by rw[MakeChecks.laidMetH_plain _ _ _ (by kernel_rfl)];exact laidMet_laidAll _ (by kernel_rfl) (by kernel_rfl))) ?_
  intro W base args ds gs before hval0 hW hL hS
  have hlen:=whole_len hW
  refine law_of tabTrue (libExt hL hS) (f:=4) (fi:=fi4) (by kernel_rfl) (fn:=Tryd.f4) rfl (tb:=4) rfl rfl Tryd.underlying4 rfl hval0 hW (by kernel_rfl) ?_ glOf_ok ?_
  · obtain ⟨d0,d1,d2,d3,rfl⟩ : ∃ d0 d1 d2 d3,ds = [d0,d1,d2,d3] := by
      match ds,hlen with
      | [d0,d1,d2,d3],_=>exact⟨d0,d1,d2,d3,rfl⟩
    rfl
  · intro xs hxs
    have hp:Tryd.f4.params.toList=[27,3,3,9]:=rfl
    rw[hp]at hxs
    obtain⟨x0,xs0,v0,vs0,rfl,a0,b0,c0,r0⟩:=args_cons hxs
    obtain⟨x1,xs1,v1,vs1,rfl,a1,b1,c1,r1⟩:=args_cons r0
    obtain⟨x2,xs2,v2,vs2,rfl,a2,b2,c2,r2⟩:=args_cons r1
    obtain⟨x3,xs3,v3,vs3,rfl,a3,b3,c3,r3⟩:=args_cons r2
    have hn:=args_nil r3
    subst hn
    obtain⟨p0,rfl,hf0⟩:=pg_arg (by kernel_rfl) a0 b0 c0
    obtain⟨n1,rfl,hn1⟩:=arg_num (by kernel_rfl) b1 c1
    obtain⟨n2,rfl,hn2⟩:=arg_num (by kernel_rfl) b2 c2
    obtain⟨s3,rfl⟩:=arg_ba (by kernel_rfl) b3
    exact law4 libX libMine libClones libKnown p0 hf0 n1 n2 s3
theorem Finds_holds:Rows.ProgramFindsSaid :=
 OpenClaim.holds_of_wide 4 Tryd.f4 rfl rfl rfl rfl rfl rfl rfl ⟨rfl,rfl,rfl,rfl,rfl⟩ rfl rfl rfl rfl rfl (by kernel_rfl) Tryd.func4 (by kernel_rfl)
  (of_decide_eq_true (by kernel_rfl)) (by unfold Func.isWrapper;first | (rw[if_pos (by decide +kernel)];kernel_rfl) | (rw[if_neg (by decide +kernel)];exact⟨rfl,rfl⟩))
  (fun os started H enc _=>Finds_lifted os started H enc)
theorem Finds_card:Rows.ProgramFindsCardSaid :=
 Claim7.holds_tied_plain_at .later [] [.data, .data, .data] true (true, "8cbd782178bbc0f2157c2a9ac2f6277b6ab0221e4ce15bf6d050e24b0b489243") false
  Finds_holds (fun _ h=>by cases h) (by kernel_rfl) (fun _ h=>by cases h) programFinds_row_tie rfl ⟨rfl,rfl⟩ (by kernel_rfl) rfl
  (fun f fn hf hfn=>by
    obtain rfl : f = 4 := Option.some.inj ((show Tryd.prog.funcNamed "skylantern/skylanternlaw25.ProgramFinds" = some 4 by kernel_rfl).symm.trans hf) |>.symm
    obtain rfl:fn=Tryd.f4:=(Option.some.inj (Tryd.func4.symm.trans hfn)).symm
    refine⟨by kernel_rfl,fun j t ht=>?_⟩
    have h:(Tryd.f4.params.toList.all fun t=>!Tryd.prog.wantsStandIn t)=true:=by kernel_rfl
    have hm:t∈Tryd.f4.params.toList:=List.mem_iff_getElem?.2 ⟨j,by rw[Array.getElem?_toList];exact ht⟩
    have:=List.all_eq_true.1 h t hm
    have h2:Tryd.prog.wantsStandIn t=false:=by simpa using this
    exact h2)
  (by kernel_rfl)
#print axioms Finds_card
end Go.Proofs.YtfmoopdnamdobaaDoor
