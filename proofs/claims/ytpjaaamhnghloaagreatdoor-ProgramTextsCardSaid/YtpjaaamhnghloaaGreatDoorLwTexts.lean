/- The law ProgramTexts returns true for all arguments, and its card; condition: the listed variables hold what the row lists. -/
import Derived.Test.YtpjaaamhnghloaaGreatDoorArgs
import Derived.Test.YtpjaaamhnghloaaGreatDoorCards
import Derived.Test.YtpjaaamhnghloaaGreatDoorTie
import Derived.ProofKit
import Derived.Lay
import Derived.SevenTiedAt
import Derived.JoinedOf
set_option linter.all false
set_option maxRecDepth 100000
namespace Go.Proofs.YtpjaaamhnghloaaGreatDoor
open Go.ChangeShapes Go.WideShapes Go.ChangeAt Go.RowKit Go.Skm Go.Skm.Prg
theorem apK:ownKnob Tryz.prog.godebug=none:=τ
theorem Vd(os:Os)(started:os.Started)(H:Type)(enc:TypeId × Value->H) :
    ReturnsInHanded {} Tryz.checked os 3 .any (λw args=>(Rows.programTextsSpec.pre enc Tryz.prog Tryz.f3 Rows.programTextsRow.domain false w args/\laidMetH Tryz.prog MK w)/\sizedMet enc Tryz.prog Tryz.f3 (OpenSpec.ofChange Rows.programTextsSpec) false w args)
     (Rows.programTextsSpec.post enc Tryz.prog Tryz.f3 false true false false):=by
  refine Ei (C:=Tryz.checked) (X:=λw _=>laidMetH Tryz.prog MK w) (λ_ _ _ s h=>h.of_heap s) apK started τ Tryz.func3
   (ChangeSpec.witness_shaped (enc:=enc) (C:=Tryz.checked) (os:=os) (X:=λw _=>laidMetH Tryz.prog MK w) false (World.laidAll Tryz.prog os MK) #[.agg #[.slice none 0 0,.slice none 0 0,.slice none 0 0],.string ByteArray.empty] 8 (World.laidAll_os _ _ _)
     (World.shaped_of_ZipB τ τ) τ τ τ
     (by rw[MakeChecks.laidMetH_plain _ _ _ τ];exact laidMet_laidAll _ τ τ)) ?_
  intro W base args i z before hval0 g u t;have b:=ab9 g;refine ai7 Ot (ai4 u t) (f:=3) (fi:=fi3) τ (fn:=Tryz.f3) rfl (tb:=4) rfl rfl Tryz.underlying4 rfl hval0 g τ ?_ agK ?_
  .obtain ⟨d,c,rfl⟩:∃d c,i=[d,c]:=by
     match i,b with
     |[d,c],_=>exact⟨d,c,rfl⟩
   rfl
  .intro xs a;have hp:Tryz.f3.params.toList=[26,9]:=rfl;rw[hp]at a;obtain⟨x0,k,y,m,rfl,v,b0,c0,p⟩:=TL a;obtain⟨x1,j,x,l,rfl,A,b1,c1,o⟩:=TL p;have r:=aem o;subst r;obtain⟨q,rfl,e⟩:=aiW τ v b0 c0;obtain⟨n,rfl⟩:=aiX τ b1;exact law3 Xl aaP TJ aeb Zl q e n
theorem Xt:Rows.ProgramTextsSaid:=
 OpenClaim.holds_of_wide 3 Tryz.f3 rfl rfl rfl rfl rfl rfl rfl ⟨rfl,rfl,rfl,rfl,rfl⟩ rfl rfl rfl rfl rfl τ Tryz.func3 τ
  (of_decide_eq_true τ) (by unfold Func.isWrapper;first |(rw[if_pos (by decide +kernel)];kernel_rfl) |(rw[if_neg (by decide +kernel)];exact⟨rfl,rfl⟩))
  (λos started H enc _=>Vd os started H enc)
theorem Texts_card:Rows.ProgramTextsCardSaid:=
 Claim7.holds_tied_plain_at .later [] [.data, .data, .data, .data, .sentinel, .sentinel, .pinned] true (true, "56c2a2a85300652c27cc621af58c129786f68f5c74a32ba14bf44a1498965991") true
  Xt (λ_ h=>by cases h) (by kernel_rfl) (λ_ h=>by cases h) programTexts_row_tie rfl ⟨rfl,rfl⟩ (by kernel_rfl) rfl
  (λf fn hf hfn=>by
    obtain rfl : f = 3 := Option.some.inj ((show Tryz.prog.funcNamed "skylantern/skylanternlaw25.ProgramTexts" = some 3 by kernel_rfl).symm.trans hf) |>.symm;obtain rfl:fn=Tryz.f3:=(Option.some.inj (Tryz.func3.symm.trans hfn)).symm;refine⟨by kernel_rfl,λj t ht=>?_⟩;have h:(Tryz.f3.params.toList.all λt=>!Tryz.prog.wantsStandIn t)=true:=by kernel_rfl
    have hm:t∈Tryz.f3.params.toList:=List.mem_iff_getElem?.2 ⟨j,by rw[Array.getElem?_toList];exact ht⟩;have:=List.all_eq_true.1 h t hm;have h2:Tryz.prog.wantsStandIn t=false:=by simpa using this
    exact h2)
  (by kernel_rfl)
#print axioms Texts_card
end Go.Proofs.YtpjaaamhnghloaaGreatDoor
