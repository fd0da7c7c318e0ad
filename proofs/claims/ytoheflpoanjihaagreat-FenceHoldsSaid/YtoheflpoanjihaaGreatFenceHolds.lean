/- The statement about turned fences holds of the program; no condition. -/
import Derived.Test.YtoheflpoanjihaaGreatRows
import Derived.Test.YtoheflpoanjihaaGreatPolyI
import Derived.Test.YtoheflpoanjihaaGreatArg2
import Derived.ProofKit
set_option linter.all false
set_option maxRecDepth 100000
namespace Go.Proofs.YtoheflpoanjihaaGreat
open Go.ChangeShapes Go.WideShapes Go.ChangeAt Go.RowKit Go.Skm Go.Skm.Fen
theorem aiR:ownKnob Tryz.prog.godebug=none:=by kernel_rfl
theorem ZN(os:Os)(started:os.Started)(H:Type)(enc:TypeId × Value->H) :
    ReturnsInHanded {} Tryz.checked os 10 .any (Rows.fenceHoldsSpec.pre6 enc Tryz.prog Tryz.f10 Rows.fenceHoldsRow.domain false) (Rows.fenceHoldsSpec.post enc Tryz.prog Tryz.f10 false true false false):=by
  refine returnsInHanded_of_change (C:=Tryz.checked) aiR started (by kernel_rfl) Tryz.func10
   (ChangeSpec.witness6 (enc:=enc) (C:=Tryz.checked) false ⟨#[],#[.agg #[.slice none 0 0,.slice none 0 0,.int .i64 0,.int .i64 0],.agg #[.int .i64 0,.int .i64 0,.int .i64 0],.agg #[.int .i64 0,.int .i64 0,.int .i64 0],.int .i64 0,.int .i64 0],[]⟩ 8 (by kernel_rfl) (by kernel_rfl) (by kernel_rfl) (by kernel_rfl)) ?_
  intro W base args ds gs before hval0 D B _;have b:∃ h g e d c,ds=[h,g,e,d,c]:=by
   obtain⟨p,q,n,hV,-⟩:=D;have hA:DataW.TrodAll enc Tryz.prog W 0 (λ_=>true) true Tryz.f10.params.toList args.toList ds p:=n;rw[Tryz.params10]at hA;have:=RU hA;simp only[Array.toList,qLl,List.length_nil]at this
   match ds,this with
   |[h,g,e,d,c],_=>exact⟨h,g,e,d,c,rfl⟩
  refine ank OD (am8 (gl:=some []) (by simp)) (f:=10) (fi:=apq) (by kernel_rfl) (fn:=Tryz.f10) rfl (tb:=4) rfl rfl Tryz.underlying4 rfl hval0 D (by kernel_rfl) ?_ (by simp) ?_
  . obtain⟨h,g,e,d,c,rfl⟩:=b;rfl
  . intro xs a;have hp:Tryz.f10.params.toList=[31,26,26,3,3]:=rfl;rw[hp]at a;obtain⟨x0,J,v0,Q,rfl,-,x,w,v,m⟩:=a.one;obtain⟨x1,I,L,P,rfl,-,Y,u,t,l⟩:=m.one;obtain⟨x2,G,K,O,rfl,-,X,s,r,k⟩:=l.one;obtain⟨x3,F,v3,N,rfl,-,V,o,A,j⟩:=k.one;obtain⟨x4,E,v4,M,rfl,-,U,z,y,i⟩:=j.one;have:=i.none;subst this;obtain⟨a0,rfl,T⟩:=agy (by kernel_rfl) x w v;obtain⟨a1,rfl,g1⟩:=afz (_v:=L) (by kernel_rfl) u t;obtain⟨a2,rfl,g2⟩:=afz (_v:=K) (by kernel_rfl) s r;obtain⟨a3,rfl,g3,S⟩:=afA (by kernel_rfl) o A;obtain⟨Z,rfl,g4,R⟩:=afA (by kernel_rfl) z y;exact apr abq afp akY aiz aiA a0 T a1 a2 a3 Z
theorem holds_holds:Rows.FenceHoldsSaid:=
 OpenClaim.holds_of_wide 10 Tryz.f10 rfl rfl rfl rfl rfl rfl rfl ⟨rfl,rfl,rfl,rfl,rfl⟩ rfl rfl rfl rfl rfl (by kernel_rfl) Tryz.func10 (by kernel_rfl)
  (of_decide_eq_true (by kernel_rfl)) (by unfold Func.isWrapper;first |(rw[if_pos (by decide +kernel)];kernel_rfl) |(rw[if_neg (by decide +kernel)];exact⟨rfl,rfl⟩))
  (λos started H enc _=>ZN os started H enc)
#print axioms holds_holds
end Go.Proofs.YtoheflpoanjihaaGreat
