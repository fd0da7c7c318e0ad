import Derived.Test.YtoheflpoanjihaaGreatF4
import Derived.KernelRfl
set_option linter.all false
set_option maxRecDepth 100000
namespace Go.Skm.Fen
open Go Go.Skm Go.Proofs Go.RowKit
noncomputable def e87:Code:=Tryz.f87.body.getD .skip
noncomputable def cR:Code:=match e87 with | .seq c _=>c | _=>.skip
noncomputable def c1:Code:=match e87 with | .seq _ (.seq c _)=>c | _=>.skip
noncomputable def c2:Code:=match e87 with | .seq _ (.seq _ (.seq c _))=>c | _=>.skip
noncomputable def cX:Code:=match e87 with | .seq _ (.seq _ (.seq _ (.block _ (.loop c))))=>c | _=>.skip
noncomputable def c3:Code:=match cX with | .seq c _=>c | _=>.skip
noncomputable def cI:Code:=match cX with | .seq _ (.seq c _)=>c | _=>.skip
noncomputable def cP:Code:=match cX with | .seq _ (.seq _ (.seq (.block _ c) _))=>c | _=>.skip
noncomputable def c4:Code:=match cP with | .seq c _=>c | _=>.skip
noncomputable def c5:Code:=match cP with | .seq _ (.seq c _)=>c | _=>.skip
noncomputable def c8:Code:=match cP with | .seq _ (.seq _ (.seq c _))=>c | _=>.skip
noncomputable def cZ:Code:=match cX with | .seq _ (.seq _ (.seq _ c))=>c | _=>.skip
theorem VN:Tryz.f87.body=some (.seq cR (.seq c1 (.seq c2 (.block 0 (.loop (.seq c3 (.seq cI (.seq (.block 1 (.seq c4 (.seq c5 (.seq c8 (.block 2 XD))))) cZ)))))))):=by kernel_rfl
theorem XF : cR = .region 0 #[⟨some 2, .box 122 (.tmp 0), 0, "fence.go:326", #[], none⟩] false := by kernel_rfl
theorem Uh:(drawsOk tab lJ.hides c1&&(drawsOk tab lJ.hides c2&&(drawsOk tab lJ.hides c3&&(drawsOk tab lJ.hides cI&&(drawsOk tab lJ.hides c4&&(drawsOk tab lJ.hides c5&&(drawsOk tab lJ.hides c8&&drawsOk tab lJ.hides cZ)))))))=true:=by kernel_rfl
theorem PN:(noRange c1&&(noRange c2&&(noRange c3&&(noRange cI&&(noRange c4&&(noRange c5&&(noRange c8&&noRange cZ)))))))=true:=by kernel_rfl
def kZ(c:Code):Bool:=(opsOf c).all λo=>match o.dst with | some t=>!(Nat.beq t 2) | none=>true
theorem XR:(kZ c1&&(kZ c2&&(kZ c3&&(kZ cI&&(kZ c4&&(kZ c5&&(kZ c8&&kZ cZ)))))))=true:=by kernel_rfl
def E(l:List (Nat × AV)):List AV:=(List.range 43).map λt=>(tlook l t).getD .undef
section
variable {α:Type} (C:CallF) (k:Ex->St->Option α) (f0 f1:List PV) (f2 f3:Int)
abbrev Ve:AV:=.p (.ref [As f0,Ap f1,Av f2,Av f3])
abbrev XT:PV:=.agg [As f0,Ap f1,Av f2,Av f3]
abbrev h12(ps:List PV):Heap:=[(12,.arr false [.slice true kV3] ps)]
theorem ch1:runCode tab C lJ (some 0) c1 ⟨E [(1,Ve f0 f1 f2 f3)],[]⟩ k=(C 18 [.p (XT f0 f1 f2 f3)] []).bind λr1 =>
    bif (!(r1.1.headD .undef).pv.toBool)then k .ret ⟨E [(1,Ve f0 f1 f2 f3),(7,.p (XT f0 f1 f2 f3)),(8,Ac ((r1.1.headD .undef).pv.toBool)),(9,Ac (!(r1.1.headD .undef).pv.toBool))],[]⟩
    else k .normal ⟨E [(1,Ve f0 f1 f2 f3),(7,.p (XT f0 f1 f2 f3)),(8,Ac ((r1.1.headD .undef).pv.toBool)),(9,Ac (!(r1.1.headD .undef).pv.toBool))],[]⟩:=by kernel_rfl
theorem ch2:runCode tab C lJ (some 0) c2 ⟨E [(1,Ve f0 f1 f2 f3)],[]⟩ k=bif (leN (1+f1.length) 2147483648)then
    k .normal ⟨E [(1,Ve f0 f1 f2 f3),(10,.lptr true [.other,.other,.int .i64,.int .i64] (XT f0 f1 f2 f3) 0),(11,Al f0),(13,.lptr true [.other,.other,.int .i64,.int .i64] (XT f0 f1 f2 f3) 1),(14,Ao f1),(15,.slice 12 1 0 (1+f1.length)),(16,Ab (((1+f1.length):Nat):Int)),(17,Ab 0)],h12 (([As f0]:List PV)++f1)⟩else none:=by kernel_rfl
variable (ps:List PV) (n:Nat) (i:Int) (l xs:List PV) (m:Nat)
theorem ch3:runCode tab C lJ (some 0) c3 ⟨E [(15,.slice 12 1 0 n),(16,Ab (n:Int)),(17,Ab i)],h12 ps⟩ k=k .normal ⟨E [(15,.slice 12 1 0 n),(16,Ab (n:Int)),(17,Ab i),(18,Ac (ltI i (n:Int)))],h12 ps⟩:=by kernel_rfl
theorem chI(b:Bool):runCode tab C lJ (some 0) cI ⟨E [(15,.slice 12 1 0 n),(16,Ab (n:Int)),(17,Ab i),(18,Ac b)],h12 ps⟩ k=bif b then k .normal ⟨E [(15,.slice 12 1 0 n),(16,Ab (n:Int)),(17,Ab i),(18,Ac b)],h12 ps⟩else k (.exit 0) ⟨E [(15,.slice 12 1 0 n),(16,Ab (n:Int)),(17,Ab i),(18,Ac b)],h12 ps⟩:=by kernel_rfl
theorem ch4:runCode tab C lJ (some 0) c4 ⟨E [(15,.slice 12 1 0 n),(16,Ab (n:Int)),(17,Ab i)],h12 ps⟩ k=bif ((leI (0:Int) i) && (ltI i (n:Int)))then
    k .normal ⟨E [(3,Ab i),(4,Al (((ps.getD (0+i.toNat) .nil).cell 0).toList)),(15,.slice 12 1 0 n),(16,Ab (n:Int)),(17,Ab i),(19,Ab i),(20,.ptr 12 (0+i.toNat) 0),(21,Al (((ps.getD (0+i.toNat) .nil).cell 0).toList))],h12 ps⟩else none:=by kernel_rfl
abbrev r5E(r2:List AV × List Blk):List (Nat × AV):=[(22,Al l),(23,Ab ((r2.1.headD .undef).pv.toInt)),(24,Ac (gtI ((r2.1.headD .undef).pv.toInt) (0:Int))),(25,Ab i),(26,Ac (i==(0:Int))),(27,Ac (!((gtI ((r2.1.headD .undef).pv.toInt) (0:Int))==(i==(0:Int)))))]
theorem ch5:runCode tab C lJ (some 0) c5 ⟨E [(3,Ab i),(4,Al l),(15,.slice 12 1 0 n),(16,Ab (n:Int)),(17,Ab i)],h12 ps⟩ k=(C 47 [Al l] []).bind λr2 =>
    bif (!((gtI ((r2.1.headD .undef).pv.toInt) (0:Int))==(i==(0:Int))))then
     (C 88 [Al l] []).bind λr3 =>
     bif ((leI (1:Int) (((r3.1.headD .undef).freshList.length:Nat):Int))&&((leI (((r3.1.headD .undef).freshList.length:Nat):Int) (((r3.1.headD .undef).freshList.length:Nat):Int))&&(leI (((r3.1.headD .undef).freshList.length:Nat):Int) (((r3.1.headD .undef).freshList.length:Nat):Int))))then(C 89 [.slice 100000 3 1 (((((r3.1.headD .undef).freshList.length:Nat):Int)-(1:Int)).toNat)] [.arr true kV3 ((r3.1.headD .undef).freshList)]).bind λr4 =>
     k .normal ⟨E ([(3,Ab i),(4,.slice 4 3 0 ((r3.1.headD .undef).freshList.length)),(15,.slice 12 1 0 n),(16,Ab (n:Int)),(17,Ab i)]++r5E i l r2++[(28,Al l),(29,.slice 4 3 0 ((r3.1.headD .undef).freshList.length)),(30,.slice 4 3 0 ((r3.1.headD .undef).freshList.length)),(31,.slice 4 3 1 (((((r3.1.headD .undef).freshList.length:Nat):Int)-(1:Int)).toNat)),(32,.tup [])]),[(12,.arr false [.slice true kV3] ps),(4,.arr true kV3 ((r4.2.headD (.box [])).xs))]⟩else none
    else
     k .normal ⟨E ([(3,Ab i),(4,Al l),(15,.slice 12 1 0 n),(16,Ab (n:Int)),(17,Ab i)]++r5E i l r2),h12 ps⟩:=by kernel_rfl
theorem ch8:runCode tab C lJ (some 0) c8 ⟨E [(4,Al l),(15,.slice 12 1 0 n),(16,Ab (n:Int)),(17,Ab i)],h12 ps⟩ k=(C 51 [Al l] []).bind λr5 =>
    k .normal ⟨E [(4,Al l),(15,.slice 12 1 0 n),(16,Ab (n:Int)),(17,Ab i),(33,Al l),(34,.p (.fn 100 [.ref [As ((((r5.1.headD .undef).pv.cap 0).rcell 0).toList)]]))],h12 ps⟩:=by kernel_rfl
theorem aby:runCode tab C lJ (some 0) c8 ⟨E [(4,.slice 4 3 0 m),(15,.slice 12 1 0 n),(16,Ab (n:Int)),(17,Ab i)],[(12,.arr false [.slice true kV3] ps),(4,.arr true kV3 xs)]⟩ k=(C 51 [Al ((xs.drop 0).take m)] []).bind λr6 =>
    k .normal ⟨E [(15,.slice 12 1 0 n),(16,Ab (n:Int)),(17,Ab i),(34,.p (.fn 100 [.ref [As ((((r6.1.headD .undef).pv.cap 0).rcell 0).toList)]]))],h12 ps⟩:=by kernel_rfl
theorem chZ:runCode tab C lJ (some 0) cZ ⟨E [(15,.slice 12 1 0 n),(16,Ab (n:Int)),(17,Ab i)],h12 ps⟩ k=k .normal ⟨E [(15,.slice 12 1 0 n),(16,Ab (n:Int)),(17,Ab (IntKind.i64.wrap (i+(1:Int)))),(42,Ab (IntKind.i64.wrap (i+(1:Int))))],h12 ps⟩:=by kernel_rfl
end
end Go.Skm.Fen
