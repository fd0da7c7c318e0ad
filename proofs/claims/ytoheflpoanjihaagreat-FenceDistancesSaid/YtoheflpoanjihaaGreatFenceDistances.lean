/- The statement about the distance to the nearest edge of a fence holds of the program; no condition. -/
import Derived.Test.YtoheflpoanjihaaGreatRows
import Derived.Test.YtoheflpoanjihaaGreatE3
import Derived.Test.YtoheflpoanjihaaGreatLA
import Derived.ProofKit
set_option linter.all false
set_option maxRecDepth 100000
namespace Go.Proofs.YtoheflpoanjihaaGreat
open Go.ChangeShapes Go.WideShapes Go.ChangeAt Go.RowKit Go.Skm Go.Skm.Fen
theorem Gz:ownKnob Tryz.prog.godebug=none:=by kernel_rfl
theorem Am(os:Os)(started:os.Started)(H:Type)(enc:TypeId × Value->H) :
    ReturnsInHanded {} Tryz.checked os 9 .any (Rows.fenceDistancesSpec.pre6 enc Tryz.prog Tryz.f9 Rows.fenceDistancesRow.domain false) (Rows.fenceDistancesSpec.post enc Tryz.prog Tryz.f9 false true false false):=by
  refine returnsInHanded_of_change (C:=Tryz.checked) Gz started (by kernel_rfl) Tryz.func9
   (ChangeSpec.witness6 (enc:=enc) (C:=Tryz.checked) false ⟨#[],#[.agg #[.slice none 0 0,.slice none 0 0,.int .i64 0,.int .i64 0],.agg #[.int .i64 0,.int .i64 0,.int .i64 0]],[]⟩ 8 (by kernel_rfl) (by kernel_rfl) (by kernel_rfl) (by kernel_rfl)) ?_
  intro W base args ds L before hval0 r o _;have b:∃ j i,ds=[j,i]:=by obtain⟨p,q,m,I,-⟩:=r;have hA:DataW.TrodAll enc Tryz.prog W 0 (λ_=>true) true Tryz.f9.params.toList args.toList ds p:=m;rw[Tryz.params9]at hA;obtain⟨v,n,j,i,G,F,K,y,J⟩:=trodAll_two hA;exact⟨j,i,y⟩
  refine law_of tabTrue (libExt (gl:=some []) (by simp)) (f:=9) (fi:=fi9) (by kernel_rfl) (fn:=Tryz.f9) rfl (tb:=4) rfl rfl Tryz.underlying4 rfl hval0 r (by kernel_rfl) ?_ (by simp) ?_
  . obtain⟨j,i,rfl⟩:=b;rfl
  . intro xs a;have hp:Tryz.f9.params.toList=[31,26]:=rfl;rw[hp]at a;obtain⟨E,u,v,x,rfl,-,h,g,d,l⟩:=a.one;obtain⟨D,t,n,w,rfl,-,s,e,c,k⟩:=l.one;have:=k.none;subst this;obtain⟨B,rfl,z⟩:=MZ (by kernel_rfl) h g d;obtain⟨A,rfl,M⟩:=QN (_v:=n) (by kernel_rfl) e c;exact law9 libX libMine QC OL OM B z A
theorem distances_holds:Rows.FenceDistancesSaid:=
 OpenClaim.holds_of_wide 9 Tryz.f9 rfl rfl rfl rfl rfl rfl rfl ⟨rfl,rfl,rfl,rfl,rfl⟩ rfl rfl rfl rfl rfl (by kernel_rfl) Tryz.func9 (by kernel_rfl)
  (of_decide_eq_true (by kernel_rfl)) (by unfold Func.isWrapper;first |(rw[if_pos (by decide +kernel)];kernel_rfl) |(rw[if_neg (by decide +kernel)];exact⟨rfl,rfl⟩))
  (λos started H enc _=>Am os started H enc)
#print axioms distances_holds
end Go.Proofs.YtoheflpoanjihaaGreat
