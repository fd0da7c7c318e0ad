/- The statement about the lines that a fence holds holds of the program; no condition. -/
import Derived.Test.YtoheflpoanjihaaGreatRows
import Derived.Test.YtoheflpoanjihaaGreatE3
import Derived.Test.YtoheflpoanjihaaGreatM4
import Derived.ProofKit
set_option linter.all false
set_option maxRecDepth 100000
namespace Go.Proofs.YtoheflpoanjihaaGreat
open Go.ChangeShapes Go.WideShapes Go.ChangeAt Go.RowKit Go.Skm Go.Skm.Fen
theorem Ri:ownKnob Tryz.prog.godebug=none:=by kernel_rfl
theorem lines_lifted(os:Os)(started:os.Started)(H:Type)(enc:TypeId × Value->H) :
    ReturnsInHanded {} Tryz.checked os 7 .any (Rows.fenceLinesSpec.pre6 enc Tryz.prog Tryz.f7 Rows.fenceLinesRow.domain false) (Rows.fenceLinesSpec.post enc Tryz.prog Tryz.f7 false true false false):=by
  refine returnsInHanded_of_change (C:=Tryz.checked) Ri started (by kernel_rfl) Tryz.func7
   (ChangeSpec.witness6 (enc:=enc) (C:=Tryz.checked) false ⟨#[],#[.agg #[.slice none 0 0,.slice none 0 0,.int .i64 0,.int .i64 0],.agg #[.int .i64 0,.int .i64 0,.int .i64 0],.agg #[.int .i64 0,.int .i64 0,.int .i64 0]],[]⟩ 8 (by kernel_rfl) (by kernel_rfl) (by kernel_rfl) (by kernel_rfl)) ?_
  intro W base args ds X before hval0 w v _;have b:∃ k j i,ds=[k,j,i]:=by obtain⟨p,q,o,T,-⟩:=w;have hA:DataW.TrodAll enc Tryz.prog W 0 (λ_=>true) true Tryz.f7.params.toList args.toList ds p:=o;rw[Tryz.params7]at hA;obtain⟨B,u,t,k,j,i,S,R,Q,V,G,U⟩:=trodAll_three hA;exact⟨k,j,i,G⟩
  refine law_of tabTrue (libExt (gl:=some []) (by simp)) (f:=7) (fi:=fi7) (by kernel_rfl) (fn:=Tryz.f7) rfl (tb:=4) rfl rfl Tryz.underlying4 rfl hval0 w (by kernel_rfl) ?_ (by simp) ?_
  . obtain⟨k,j,i,rfl⟩:=b;rfl
  . intro xs a;have hp:Tryz.f7.params.toList=[31,26,26]:=rfl;rw[hp]at a;obtain⟨P,A,B,F,rfl,-,h,g,d,n⟩:=a.one;obtain⟨O,z,u,E,rfl,-,x,e,c,m⟩:=n.one;obtain⟨N,y,t,D,rfl,-,J,s,r,l⟩:=m.one;have:=l.none;subst this;obtain⟨M,rfl,I⟩:=O6 (by kernel_rfl) h g d;obtain⟨L,rfl,Z⟩:=Og (_v:=u) (by kernel_rfl) e c;obtain⟨K,rfl,Y⟩:=Og (_v:=t) (by kernel_rfl) s r;exact law7 libX libMine TS QU QV M I L K
theorem lines_holds:Rows.FenceLinesSaid:=
 OpenClaim.holds_of_wide 7 Tryz.f7 rfl rfl rfl rfl rfl rfl rfl ⟨rfl,rfl,rfl,rfl,rfl⟩ rfl rfl rfl rfl rfl (by kernel_rfl) Tryz.func7 (by kernel_rfl)
  (of_decide_eq_true (by kernel_rfl)) (by unfold Func.isWrapper;first |(rw[if_pos (by decide +kernel)];kernel_rfl) |(rw[if_neg (by decide +kernel)];exact⟨rfl,rfl⟩))
  (λos started H enc _=>lines_lifted os started H enc)
#print axioms lines_holds
end Go.Proofs.YtoheflpoanjihaaGreat
