import Derived.Test.YtoheflpoanjihaaGreatF4
import Derived.KernelRfl
set_option linter.all false
set_option maxRecDepth 100000
namespace Go.Skm.Fen
open Go Go.Skm Go.Proofs Go.RowKit
noncomputable def e87:Code:=Tryz.f87.body.getD .skip
noncomputable def cR:Code:=match e87 with | .seq c _=>c | _=>.skip
noncomputable def c1:Code:=match e87 with | .seq _ (.seq c _)=>c | _=>.skip
noncomputable def c2:Code:=match e87 with | .seq _ (.seq _ (.seq c _))=>c | _=>.skip
noncomputable def cX:Code:=match e87 with | .seq _ (.seq _ (.seq _ (.block _ (.loop c))))=>c | _=>.skip
noncomputable def c3:Code:=match cX with | .seq c _=>c | _=>.skip
noncomputable def cI:Code:=match cX with | .seq _ (.seq c _)=>c | _=>.skip
noncomputable def cP:Code:=match cX with | .seq _ (.seq _ (.seq (.block _ c) _))=>c | _=>.skip
noncomputable def c4:Code:=match cP with | .seq c _=>c | _=>.skip
noncomputable def c5:Code:=match cP with | .seq _ (.seq c _)=>c | _=>.skip
noncomputable def c8:Code:=match cP with | .seq _ (.seq _ (.seq c _))=>c | _=>.skip
noncomputable def cZ:Code:=match cX with | .seq _ (.seq _ (.seq _ c))=>c | _=>.skip
theorem ane:Tryz.f87.body=some (.seq cR (.seq c1 (.seq c2 (.block 0 (.loop (.seq c3 (.seq cI (.seq (.block 1 (.seq c4 (.seq c5 (.seq c8 (.block 2 eRF))))) cZ)))))))):=by kernel_rfl
theorem ao5 : cR = .region 0 #[⟨some 2, .box 122 (.tmp 0), 0, "fence.go:326", #[], none⟩] false := by kernel_rfl
theorem ala:(gy tab sU.hides c1&&(gy tab sU.hides c2&&(gy tab sU.hides c3&&(gy tab sU.hides cI&&(gy tab sU.hides c4&&(gy tab sU.hides c5&&(gy tab sU.hides c8&&gy tab sU.hides cZ)))))))=true:=by kernel_rfl
theorem agY:(gQ c1&&(gQ c2&&(gQ c3&&(gQ cI&&(gQ c4&&(gQ c5&&(gQ c8&&gQ cZ)))))))=true:=by kernel_rfl
def rY(c:Code):Bool:=(opsOf c).all λo=>match o.dst with | some t=>!(Nat.beq t 2) | none=>true
theorem apg:(rY c1&&(rY c2&&(rY c3&&(rY cI&&(rY c4&&(rY c5&&(rY c8&&rY cZ)))))))=true:=by kernel_rfl
def E(l:List (Nat × AV)):List AV:=(List.range 43).map λt=>(dZ l t).getD .undef
section
variable {α:Type} (C:aH) (k:Ex->St->Option α) (f0 f1:List PV) (f2 f3:Int)
abbrev rfE:AV:=.p (.ref [.list true aU f0,.list false [.slice true aU] f1,Ap f2,Ap f3])
abbrev fnE:PV:=.agg [.list true aU f0,.list false [.slice true aU] f1,Ap f2,Ap f3]
abbrev h12(ps:List PV):Heap:=[(12,.arr false [.slice true aU] ps)]
theorem ch1:dH tab C sU (some 0) c1 ⟨E [(1,rfE f0 f1 f2 f3)],[]⟩ k=(C 18 [.p (fnE f0 f1 f2 f3)] []).bind λr1 =>
    bif (!(r1.1.headD .undef).pv.toBool)then k .ret ⟨E [(1,rfE f0 f1 f2 f3),(7,.p (fnE f0 f1 f2 f3)),(8,Ac ((r1.1.headD .undef).pv.toBool)),(9,Ac (!(r1.1.headD .undef).pv.toBool))],[]⟩
    else k .normal ⟨E [(1,rfE f0 f1 f2 f3),(7,.p (fnE f0 f1 f2 f3)),(8,Ac ((r1.1.headD .undef).pv.toBool)),(9,Ac (!(r1.1.headD .undef).pv.toBool))],[]⟩:=by kernel_rfl
theorem ch2:dH tab C sU (some 0) c2 ⟨E [(1,rfE f0 f1 f2 f3)],[]⟩ k=bif (F5 (1+f1.length) 2147483648)then
    k .normal ⟨E [(1,rfE f0 f1 f2 f3),(10,.rE true [.other,.other,.int .i64,.int .i64] (fnE f0 f1 f2 f3) 0),(11,.p (.list true aU f0)),(13,.rE true [.other,.other,.int .i64,.int .i64] (fnE f0 f1 f2 f3) 1),(14,.p (.list false [.slice true aU] f1)),(15,.slice 12 1 0 (1+f1.length)),(16,Ab (((1+f1.length):Nat):Int)),(17,Ab 0)],h12 (([.list true aU f0]:List PV)++f1)⟩else none:=by kernel_rfl
variable (ps:List PV) (n:Nat) (i:Int) (l xs:List PV) (m:Nat)
theorem ch3:dH tab C sU (some 0) c3 ⟨E [(15,.slice 12 1 0 n),(16,Ab (n:Int)),(17,Ab i)],h12 ps⟩ k=k .normal ⟨E [(15,.slice 12 1 0 n),(16,Ab (n:Int)),(17,Ab i),(18,Ac (cu i (n:Int)))],h12 ps⟩:=by kernel_rfl
theorem chI(b:Bool):dH tab C sU (some 0) cI ⟨E [(15,.slice 12 1 0 n),(16,Ab (n:Int)),(17,Ab i),(18,Ac b)],h12 ps⟩ k=bif b then k .normal ⟨E [(15,.slice 12 1 0 n),(16,Ab (n:Int)),(17,Ab i),(18,Ac b)],h12 ps⟩else k (.exit 0) ⟨E [(15,.slice 12 1 0 n),(16,Ab (n:Int)),(17,Ab i),(18,Ac b)],h12 ps⟩:=by kernel_rfl
theorem ch4:dH tab C sU (some 0) c4 ⟨E [(15,.slice 12 1 0 n),(16,Ab (n:Int)),(17,Ab i)],h12 ps⟩ k=bif ((leI (0:Int) i) && (cu i (n:Int)))then
    k .normal ⟨E [(3,Ab i),(4,.p (.list true aU (((ps.getD (0+i.toNat) .nil).cell 0).toList))),(15,.slice 12 1 0 n),(16,Ab (n:Int)),(17,Ab i),(19,Ab i),(20,.ptr 12 (0+i.toNat) 0),(21,.p (.list true aU (((ps.getD (0+i.toNat) .nil).cell 0).toList)))],h12 ps⟩else none:=by kernel_rfl
abbrev r5E(r2:List AV × List bZ):List (Nat × AV):=[(22,.p (.list true aU l)),(23,Ab ((r2.1.headD .undef).pv.toInt)),(24,Ac (mg ((r2.1.headD .undef).pv.toInt) (0:Int))),(25,Ab i),(26,Ac (i==(0:Int))),(27,Ac (!((mg ((r2.1.headD .undef).pv.toInt) (0:Int))==(i==(0:Int)))))]
theorem ch5:dH tab C sU (some 0) c5 ⟨E [(3,Ab i),(4,.p (.list true aU l)),(15,.slice 12 1 0 n),(16,Ab (n:Int)),(17,Ab i)],h12 ps⟩ k=(C 47 [.p (.list true aU l)] []).bind λr2 =>
    bif (!((mg ((r2.1.headD .undef).pv.toInt) (0:Int))==(i==(0:Int))))then
     (C 88 [.p (.list true aU l)] []).bind λr3 =>
     bif ((leI (1:Int) (((r3.1.headD .undef).aI.length:Nat):Int))&&((leI (((r3.1.headD .undef).aI.length:Nat):Int) (((r3.1.headD .undef).aI.length:Nat):Int))&&(leI (((r3.1.headD .undef).aI.length:Nat):Int) (((r3.1.headD .undef).aI.length:Nat):Int))))then(C 89 [.slice 100000 3 1 (((((r3.1.headD .undef).aI.length:Nat):Int)-(1:Int)).toNat)] [.arr true aU ((r3.1.headD .undef).aI)]).bind λr4 =>
     k .normal ⟨E ([(3,Ab i),(4,.slice 4 3 0 ((r3.1.headD .undef).aI.length)),(15,.slice 12 1 0 n),(16,Ab (n:Int)),(17,Ab i)]++r5E i l r2++[(28,.p (.list true aU l)),(29,.slice 4 3 0 ((r3.1.headD .undef).aI.length)),(30,.slice 4 3 0 ((r3.1.headD .undef).aI.length)),(31,.slice 4 3 1 (((((r3.1.headD .undef).aI.length:Nat):Int)-(1:Int)).toNat)),(32,.vM [])]),[(12,.arr false [.slice true aU] ps),(4,.arr true aU ((r4.2.headD (.box [])).xs))]⟩else none
    else
     k .normal ⟨E ([(3,Ab i),(4,.p (.list true aU l)),(15,.slice 12 1 0 n),(16,Ab (n:Int)),(17,Ab i)]++r5E i l r2),h12 ps⟩:=by kernel_rfl
theorem ch8:dH tab C sU (some 0) c8 ⟨E [(4,.p (.list true aU l)),(15,.slice 12 1 0 n),(16,Ab (n:Int)),(17,Ab i)],h12 ps⟩ k=(C 51 [.p (.list true aU l)] []).bind λr5 =>
    k .normal ⟨E [(4,.p (.list true aU l)),(15,.slice 12 1 0 n),(16,Ab (n:Int)),(17,Ab i),(33,.p (.list true aU l)),(34,.p (.fn 100 [.ref [.list true aU ((((r5.1.headD .undef).pv.cap 0).iF 0).toList)]]))],h12 ps⟩:=by kernel_rfl
theorem aul:dH tab C sU (some 0) c8 ⟨E [(4,.slice 4 3 0 m),(15,.slice 12 1 0 n),(16,Ab (n:Int)),(17,Ab i)],[(12,.arr false [.slice true aU] ps),(4,.arr true aU xs)]⟩ k=(C 51 [.p (.list true aU ((xs.drop 0).take m))] []).bind λr6 =>
    k .normal ⟨E [(15,.slice 12 1 0 n),(16,Ab (n:Int)),(17,Ab i),(34,.p (.fn 100 [.ref [.list true aU ((((r6.1.headD .undef).pv.cap 0).iF 0).toList)]]))],h12 ps⟩:=by kernel_rfl
theorem chZ:dH tab C sU (some 0) cZ ⟨E [(15,.slice 12 1 0 n),(16,Ab (n:Int)),(17,Ab i)],h12 ps⟩ k=k .normal ⟨E [(15,.slice 12 1 0 n),(16,Ab (n:Int)),(17,Ab (IntKind.i64.wrap (i+(1:Int)))),(42,Ab (IntKind.i64.wrap (i+(1:Int))))],h12 ps⟩:=by kernel_rfl
end
end Go.Skm.Fen
