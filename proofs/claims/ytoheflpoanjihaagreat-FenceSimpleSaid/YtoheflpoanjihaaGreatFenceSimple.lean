/- The statement about simple polygons holds of the program; no condition. -/
import Derived.Test.YtoheflpoanjihaaGreatRows
import Derived.Test.YtoheflpoanjihaaGreatG24
import Derived.Test.YtoheflpoanjihaaGreatL4
import Derived.ProofKit
set_option maxRecDepth 100000
namespace Go.Proofs.YtoheflpoanjihaaGreat
open Go.ChangeShapes Go.WideShapes Go.ChangeAt Go.RowKit Go.Skm Go.Skm.Fen
theorem ab9:ownKnob Tryz.prog.godebug=none:=by kernel_rfl
theorem SS (os : Os) (started : os.Started) (H : Type) (enc : TypeId × Value → H) :
    ReturnsInHanded {} Tryz.checked os 3 .any (Rows.fenceSimpleSpec.pre6 enc Tryz.prog Tryz.f3 Rows.fenceSimpleRow.domain false) (Rows.fenceSimpleSpec.post enc Tryz.prog Tryz.f3 false true false false):=by
  refine returnsInHanded_of_change (C:=Tryz.checked) ab9 started (by kernel_rfl) Tryz.func3
   (ChangeSpec.witness6 (enc:=enc) (C:=Tryz.checked) false ⟨#[],#[.slice none 0 0,.int .i64 0],[]⟩ 8 (by kernel_rfl) (by kernel_rfl) (by kernel_rfl) (by kernel_rfl)) ?_
  intro W base args ds gs before hval0 hW hcnd _;have hlen:∃ d0 d1,ds=[d0,d1]:=by obtain⟨p,q,hA0,hV,-⟩:=hW;have hA:DataW.TrodAll enc Tryz.prog W 0 (fun _=>true) true Tryz.f3.params.toList args.toList ds p:=hA0;rw[Tryz.params3]at hA;obtain⟨v0,v1,d0,d1,p0,p1,h1,h2,h3⟩:=trodAll_two hA;exact⟨d0,d1,h2⟩
  refine ahl JQ (ag9 (gl:=some []) (by simp)) (f:=3) (fi:=fi3) (by kernel_rfl) (fn:=Tryz.f3) rfl (tb:=4) rfl rfl Tryz.underlying4 rfl hval0 hW (by kernel_rfl) ?_ (by simp) ?_
  · obtain⟨d0,d1,rfl⟩:=hlen;rfl
  · intro xs hxs;have hp:Tryz.f3.params.toList=[22,3]:=rfl;rw[hp]at hxs;obtain⟨x0,ys0,v0,us0,rfl,-,anh,ani,anj,hr0⟩:=hxs.one;obtain⟨x1,ys1,v1,us1,rfl,-,asb,ank,anl,hr1⟩:=hr0.one;have:=hr1.none;subst this;obtain⟨a0,rfl,-,-⟩:=adO (by kernel_rfl) anh ani anj;obtain⟨a1,rfl,-,-⟩:=afB (by kernel_rfl) ank anl;exact law3 Xa aaC afp adz adA a0 a1
theorem simple_holds:Rows.FenceSimpleSaid :=
 OpenClaim.holds_of_wide 3 Tryz.f3 rfl rfl rfl rfl rfl rfl rfl ⟨rfl,rfl,rfl,rfl,rfl⟩ rfl rfl rfl rfl rfl (by kernel_rfl) Tryz.func3 (by kernel_rfl)
  (of_decide_eq_true (by kernel_rfl)) (by unfold Func.isWrapper;first | (rw[if_pos (by decide +kernel)];kernel_rfl) | (rw[if_neg (by decide +kernel)];exact⟨rfl,rfl⟩))
  (fun os started H enc _=>SS os started H enc)
#print axioms simple_holds
end Go.Proofs.YtoheflpoanjihaaGreat
