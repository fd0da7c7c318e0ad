/- The statement about the edges of a fence holds of the program; no condition. -/
import Derived.Test.YtoheflpoanjihaaGreatRows
import Derived.Test.YtoheflpoanjihaaGreatE3
import Derived.Test.YtoheflpoanjihaaGreatL9
import Derived.ProofKit
set_option linter.all false
set_option maxRecDepth 100000
namespace Go.Proofs.YtoheflpoanjihaaGreat
open Go.ChangeShapes Go.WideShapes Go.ChangeAt Go.RowKit Go.Skm Go.Skm.Fen
theorem Qh:ownKnob Tryz.prog.godebug=none:=by kernel_rfl
theorem Ip(os:Os)(started:os.Started)(H:Type)(enc:TypeId × Value->H) :
    ReturnsInHanded {} Tryz.checked os 8 .any (Rows.fenceEdgesSpec.pre6 enc Tryz.prog Tryz.f8 Rows.fenceEdgesRow.domain false) (Rows.fenceEdgesSpec.post enc Tryz.prog Tryz.f8 false true false false):=by
  refine returnsInHanded_of_change (C:=Tryz.checked) Qh started (by kernel_rfl) Tryz.func8
   (ChangeSpec.witness6 (enc:=enc) (C:=Tryz.checked) false ⟨#[],#[.agg #[.slice none 0 0,.slice none 0 0,.int .i64 0,.int .i64 0],.int .i64 0],[]⟩ 8 (by kernel_rfl) (by kernel_rfl) (by kernel_rfl) (by kernel_rfl)) ?_
  intro W base args ds M before hval0 o n _;have b:∃ j i,ds=[j,i]:=by obtain⟨p,q,m,J,-⟩:=o;have hA:DataW.TrodAll enc Tryz.prog W 0 (λ_=>true) true Tryz.f8.params.toList args.toList ds p:=m;rw[Tryz.params8]at hA;obtain⟨v,u,j,i,I,G,L,y,K⟩:=trodAll_two hA;exact⟨j,i,y⟩
  refine law_of tabTrue (libExt (gl:=some []) (by simp)) (f:=8) (fi:=fi8) (by kernel_rfl) (fn:=Tryz.f8) rfl (tb:=4) rfl rfl Tryz.underlying4 rfl hval0 o (by kernel_rfl) ?_ (by simp) ?_
  . obtain⟨j,i,rfl⟩:=b;rfl
  . intro xs a;have hp:Tryz.f8.params.toList=[31,3]:=rfl;rw[hp]at a;obtain⟨F,t,v,x,rfl,-,h,g,d,l⟩:=a.one;obtain⟨E,s,u,w,rfl,-,r,e,c,k⟩:=l.one;have:=k.none;subst this;obtain⟨D,rfl,A⟩:=yt (by kernel_rfl) h g d;obtain⟨B,rfl,N,z⟩:=int_arg (by kernel_rfl) e c;exact aax libX libMine D5 zS zT D A B
theorem edges_holds:Rows.FenceEdgesSaid:=
 OpenClaim.holds_of_wide 8 Tryz.f8 rfl rfl rfl rfl rfl rfl rfl ⟨rfl,rfl,rfl,rfl,rfl⟩ rfl rfl rfl rfl rfl (by kernel_rfl) Tryz.func8 (by kernel_rfl)
  (of_decide_eq_true (by kernel_rfl)) (by unfold Func.isWrapper;first |(rw[if_pos (by decide +kernel)];kernel_rfl) |(rw[if_neg (by decide +kernel)];exact⟨rfl,rfl⟩))
  (λos started H enc _=>Ip os started H enc)
#print axioms edges_holds
end Go.Proofs.YtoheflpoanjihaaGreat
