/- The statement about the places of a fence holds of the program; no condition. -/
import Derived.Test.YtoheflpoanjihaaGreatRows
import Derived.Test.YtoheflpoanjihaaGreatE3
import Derived.Test.YtoheflpoanjihaaGreatArg2
import Derived.ProofKit
set_option linter.all false
set_option maxRecDepth 100000
namespace Go.Proofs.YtoheflpoanjihaaGreat
open Go.ChangeShapes Go.WideShapes Go.ChangeAt Go.RowKit Go.Skm Go.Skm.Fen
theorem OB:ownKnob Tryz.prog.godebug=none:=by kernel_rfl
theorem places_lifted(os:Os)(started:os.Started)(H:Type)(enc:TypeId × Value->H) :
    ReturnsInHanded {} Tryz.checked os 6 .any (Rows.fencePlacesSpec.pre6 enc Tryz.prog Tryz.f6 Rows.fencePlacesRow.domain false) (Rows.fencePlacesSpec.post enc Tryz.prog Tryz.f6 false true false false):=by
  refine returnsInHanded_of_change (C:=Tryz.checked) OB started (by kernel_rfl) Tryz.func6
   (ChangeSpec.witness6 (enc:=enc) (C:=Tryz.checked) false ⟨#[],#[.agg #[.slice none 0 0,.slice none 0 0,.int .i64 0,.int .i64 0],.agg #[.bool false,.string ByteArray.empty,.bool false,.string ByteArray.empty],.agg #[.bool false,.string ByteArray.empty,.bool false,.string ByteArray.empty],.agg #[.bool false,.string ByteArray.empty,.bool false,.string ByteArray.empty],.int .i64 0],[]⟩ 8 (by kernel_rfl) (by kernel_rfl) (by kernel_rfl) (by kernel_rfl)) ?_
  intro W base args ds gs before hval0 z y _;have b:∃ l k j i h,ds=[l,k,j,i,h]:=by
   obtain⟨p,q,t,hV,-⟩:=z;have hA:DataW.TrodAll enc Tryz.prog W 0 (λ_=>true) true Tryz.f6.params.toList args.toList ds p:=t;rw[Tryz.params6]at hA;have:=trodAll_len hA;simp only[Array.toList,qLl,List.length_nil]at this
   match ds,this with
   |[l,k,j,i,h],_=>exact⟨l,k,j,i,h,rfl⟩
  refine law_of tabTrue (libExt (gl:=some []) (by simp)) (f:=6) (fi:=fi6) (by kernel_rfl) (fn:=Tryz.f6) rfl (tb:=4) rfl rfl Tryz.underlying4 rfl hval0 z (by kernel_rfl) ?_ (by simp) ?_
  . obtain⟨l,k,j,i,h,rfl⟩:=b;rfl
  . intro xs a;have hp:Tryz.f6.params.toList=[31,45,45,45,3]:=rfl;rw[hp]at a;obtain⟨x0,I,v0,N,rfl,-,g,e,c,s⟩:=a.one;obtain⟨x1,G,v1,M,rfl,-,B,d,A,r⟩:=s.one;obtain⟨x2,F,v2,L,rfl,-,U,v,T,o⟩:=r.one;obtain⟨x3,E,v3,K,rfl,-,S,u,R,n⟩:=o.one;obtain⟨x4,D,v4,J,rfl,-,Q,x,w,m⟩:=n.one;have:=m.none;subst this;obtain⟨a0,rfl,P⟩:=yt (by kernel_rfl) g e c;obtain⟨Z,rfl⟩:=BJ (by kernel_rfl) d;obtain⟨Y,rfl⟩:=BJ (by kernel_rfl) v;obtain⟨X,rfl⟩:=BJ (by kernel_rfl) u;obtain⟨V,rfl,g4,O⟩:=int_arg (by kernel_rfl) x w;exact law6 libX libMine D5 zS zT a0 P Z Y X V
theorem places_holds:Rows.FencePlacesSaid:=
 OpenClaim.holds_of_wide 6 Tryz.f6 rfl rfl rfl rfl rfl rfl rfl ⟨rfl,rfl,rfl,rfl,rfl⟩ rfl rfl rfl rfl rfl (by kernel_rfl) Tryz.func6 (by kernel_rfl)
  (of_decide_eq_true (by kernel_rfl)) (by unfold Func.isWrapper;first |(rw[if_pos (by decide +kernel)];kernel_rfl) |(rw[if_neg (by decide +kernel)];exact⟨rfl,rfl⟩))
  (λos started H enc _=>places_lifted os started H enc)
#print axioms places_holds
end Go.Proofs.YtoheflpoanjihaaGreat
