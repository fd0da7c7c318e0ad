/- The statement about valid fences holds of the program; no condition. -/
import Derived.Test.YtoheflpoanjihaaGreatRows
import Derived.Test.YtoheflpoanjihaaGreatE3
import Derived.Test.YtoheflpoanjihaaGreatL5
import Derived.ProofKit
set_option linter.all false
set_option maxRecDepth 100000
namespace Go.Proofs.YtoheflpoanjihaaGreat
open Go.ChangeShapes Go.WideShapes Go.ChangeAt Go.RowKit Go.Skm Go.Skm.Fen
theorem Qi:ownKnob Tryz.prog.godebug=none:=by kernel_rfl
theorem Iq(os:Os)(started:os.Started)(H:Type)(enc:TypeId × Value->H) :
    ReturnsInHanded {} Tryz.checked os 4 .any (Rows.fenceValidSpec.pre6 enc Tryz.prog Tryz.f4 Rows.fenceValidRow.domain false) (Rows.fenceValidSpec.post enc Tryz.prog Tryz.f4 false true false false):=by
  refine returnsInHanded_of_change (C:=Tryz.checked) Qi started (by kernel_rfl) Tryz.func4
   (ChangeSpec.witness6 (enc:=enc) (C:=Tryz.checked) false ⟨#[],#[.agg #[.slice none 0 0,.slice none 0 0,.int .i64 0,.int .i64 0]],[]⟩ 8 (by kernel_rfl) (by kernel_rfl) (by kernel_rfl) (by kernel_rfl)) ?_
  intro W base args ds y before hval0 k j _;have b:∃ g,ds=[g]:=by obtain⟨p,q,i,u,-⟩:=k;have hA:DataW.TrodAll enc Tryz.prog W 0 (λ_=>true) true Tryz.f4.params.toList args.toList ds p:=i;rw[Tryz.params4]at hA;obtain⟨m,g,t,x,w,v⟩:=trodAll_one hA;exact⟨g,by simp_all⟩
  refine law_of tabTrue (libExt (gl:=some []) (by simp)) (f:=4) (fi:=fi4) (by kernel_rfl) (fn:=Tryz.f4) rfl (tb:=4) rfl rfl Tryz.underlying4 rfl hval0 k (by kernel_rfl) ?_ (by simp) ?_
  . obtain⟨g,rfl⟩:=b;rfl
  . intro xs a;have hp:Tryz.f4.params.toList=[31]:=rfl;rw[hp]at a;obtain⟨s,l,m,n,rfl,-,e,d,c,h⟩:=a.one;have:=h.none;subst this;obtain⟨r,rfl,o⟩:=yt (by kernel_rfl) e d c;exact law4 libX libMine D5 zS zT r o
theorem valid_holds:Rows.FenceValidSaid:=
 OpenClaim.holds_of_wide 4 Tryz.f4 rfl rfl rfl rfl rfl rfl rfl ⟨rfl,rfl,rfl,rfl,rfl⟩ rfl rfl rfl rfl rfl (by kernel_rfl) Tryz.func4 (by kernel_rfl)
  (of_decide_eq_true (by kernel_rfl)) (by unfold Func.isWrapper;first |(rw[if_pos (by decide +kernel)];kernel_rfl) |(rw[if_neg (by decide +kernel)];exact⟨rfl,rfl⟩))
  (λos started H enc _=>Iq os started H enc)
#print axioms valid_holds
end Go.Proofs.YtoheflpoanjihaaGreat
