/- The statement about the points inside a fence holds of the program; no condition. -/
import Derived.Test.YtoheflpoanjihaaGreatRows
import Derived.Test.YtoheflpoanjihaaGreatE3
import Derived.Test.YtoheflpoanjihaaGreatL6
import Derived.ProofKit
set_option linter.all false
set_option maxRecDepth 100000
namespace Go.Proofs.YtoheflpoanjihaaGreat
open Go.ChangeShapes Go.WideShapes Go.ChangeAt Go.RowKit Go.Skm Go.Skm.Fen
theorem Ld:ownKnob Tryz.prog.godebug=none:=by kernel_rfl
theorem ET(os:Os)(started:os.Started)(H:Type)(enc:TypeId × Value->H) :
    ReturnsInHanded {} Tryz.checked os 5 .any (Rows.fenceInsidesSpec.pre6 enc Tryz.prog Tryz.f5 Rows.fenceInsidesRow.domain false) (Rows.fenceInsidesSpec.post enc Tryz.prog Tryz.f5 false true false false):=by
  refine returnsInHanded_of_change (C:=Tryz.checked) Ld started (by kernel_rfl) Tryz.func5
   (ChangeSpec.witness6 (enc:=enc) (C:=Tryz.checked) false ⟨#[],#[.agg #[.slice none 0 0,.slice none 0 0,.int .i64 0,.int .i64 0],.slice none 0 0],[]⟩ 8 (by kernel_rfl) (by kernel_rfl) (by kernel_rfl) (by kernel_rfl)) ?_
  intro W base args ds M before hval0 r o _;have b:∃ k j,ds=[k,j]:=by obtain⟨p,q,n,J,-⟩:=r;have hA:DataW.TrodAll enc Tryz.prog W 0 (λ_=>true) true Tryz.f5.params.toList args.toList ds p:=n;rw[Tryz.params5]at hA;obtain⟨v,u,k,j,I,G,L,y,K⟩:=trodAll_two hA;exact⟨k,j,y⟩
  refine law_of tabTrue (libExt (gl:=some []) (by simp)) (f:=5) (fi:=fi5) (by kernel_rfl) (fn:=Tryz.f5) rfl (tb:=4) rfl rfl Tryz.underlying4 rfl hval0 r (by kernel_rfl) ?_ (by simp) ?_
  . obtain⟨k,j,rfl⟩:=b;rfl
  . intro xs a;have hp:Tryz.f5.params.toList=[31,22]:=rfl;rw[hp]at a;obtain⟨F,t,v,x,rfl,-,i,g,d,m⟩:=a.one;obtain⟨E,s,u,w,rfl,-,h,e,c,l⟩:=m.one;have:=l.none;subst this;obtain⟨D,rfl,A⟩:=yt (by kernel_rfl) i g d;obtain⟨B,rfl,z,-⟩:=vecs_arg (by kernel_rfl) h e c;exact law5 libX libMine D5 zS zT D A B z
theorem insides_holds:Rows.FenceInsidesSaid:=
 OpenClaim.holds_of_wide 5 Tryz.f5 rfl rfl rfl rfl rfl rfl rfl ⟨rfl,rfl,rfl,rfl,rfl⟩ rfl rfl rfl rfl rfl (by kernel_rfl) Tryz.func5 (by kernel_rfl)
  (of_decide_eq_true (by kernel_rfl)) (by unfold Func.isWrapper;first |(rw[if_pos (by decide +kernel)];kernel_rfl) |(rw[if_neg (by decide +kernel)];exact⟨rfl,rfl⟩))
  (λos started H enc _=>ET os started H enc)
#print axioms insides_holds
end Go.Proofs.YtoheflpoanjihaaGreat
