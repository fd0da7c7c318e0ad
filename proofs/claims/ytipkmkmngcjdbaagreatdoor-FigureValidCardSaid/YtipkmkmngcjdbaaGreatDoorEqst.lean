/-
  What the machine does in each function of this program, and in each round of each loop; no condition.
-/
import Derived.Test.YtipkmkmngcjdbaaGreatDoorEqs
import Derived.Test.YtipkmkmngcjdbaaGreatDoorTabt
set_option maxRecDepth 100000
namespace Go.Skm.Fig
open Go Go.Skm
theorem e9 (C:CallF) (a:List PV) (b:List PV):acallI tab C 9 [.p (.list true kSh a),.p (.list true kSh b)] [] =
 (C 10 [.p (.list true kSh a)] []).bind fun r1 =>
 bif (!(r1.1.headD .undef).pv.toBool) then
  (C 12 [] []).bind fun r2 =>
  some ([.p (.bool ((r2.1.headD .undef).pv.toBool))],[])
 else
  (C 10 [.p (.list true kSh b)] []).bind fun r3 =>
  bif (!(r3.1.headD .undef).pv.toBool) then
   (C 12 [] []).bind fun r4 =>
   some ([.p (.bool ((r4.1.headD .undef).pv.toBool))],[])
  else
   (C 28 [.p (.list true kSh a)] []).bind fun r5 =>
   (C 14 [.p (.list true kSh a)] []).bind fun r6 =>
   bif ((r5.1.headD .undef).pv.toBool==(r6.1.headD .undef).pv.toBool) then
    (C 29 [.p (.list true kSh a),.p (.list true kSh b)] []).bind fun r7 =>
    (C 21 [.p (.list true kSh a),.p (.list true kSh b)] []).bind fun r8 =>
    bif ((r7.1.headD .undef).pv.toBool==(r8.1.headD .undef).pv.toBool) then
     (C 29 [.p (.list true kSh a),.p (.list true kSh a)] []).bind fun r9 =>
     bif (r9.1.headD .undef).pv.toBool then
      (C 12 [] []).bind fun r10 =>
      some ([.p (.bool ((r10.1.headD .undef).pv.toBool))],[])
     else
      some ([.p (.bool false)],[])
    else
     some ([.p (.bool false)],[])
   else
    some ([.p (.bool false)],[]):=by kernel_rfl
def S18_11010 (f':List PV) (out':ByteArray) (i':Int):St:=⟨(.p (.list true kSh f'))::.undef::.undef::(.p (.str out'))::(.p (.int .i64 i'))::List.replicate 15 .undef,[]⟩
theorem e18 (C:CallF) (f:List PV):acallI tab C 18 [.p (.list true kSh f)] [] =
 L tab C 18 [] [.lp [1,1,0,1,0]] (S18_11010 f ⟨#[]⟩ 0):=by kernel_rfl
theorem e18_11010 (C:CallF) (f':List PV) (out':ByteArray) (i':Int):R tab C 18 [] [.lp [1,1,0,1,0]] (S18_11010 f' out' i') =
 bif (ltI i' ((f'.length:Nat):Int)) then
  bif ((leI (0:Int) i')&&(ltI i' ((f'.length:Nat):Int))) then(C 42 [.p (.agg [.int .i64 (((f'.getD i'.toNat .nil).cell 0).toInt),.list true kV3 (((f'.getD i'.toNat .nil).cell 1).toList),.int .i64 (((f'.getD i'.toNat .nil).cell 2).toInt),.int .i64 (((f'.getD i'.toNat .nil).cell 3).toInt),.int .i64 (((f'.getD i'.toNat .nil).cell 4).toInt),.int .i64 (((f'.getD i'.toNat .nil).cell 5).toInt)])] []).bind fun r1 =>
  bif (leN (out'.size+((r1.1.headD .undef).pv.toStr).size) 4611686018427387904) then bif (leN ((out'++(r1.1.headD .undef).pv.toStr).size+(⟨#[10]⟩:ByteArray).size) 4611686018427387904) then L tab C 18 [] [.lp [1,1,0,1,0]] (S18_11010 f' ((out'++(r1.1.headD .undef).pv.toStr)++(⟨#[10]⟩:ByteArray)) (IntKind.i64.wrap (i'+(1:Int)))) else none else none else none
 else
  some ([.p (.str out')],[]):=by kernel_rfl
theorem e29 (C:CallF) (a:List PV) (b:List PV):acallI tab C 29 [.p (.list true kSh a),.p (.list true kSh b)] [] =
 (C 55 [.p (.list true kSh a),.p (.list true kSh b),.p (.fn 56 [])] []).bind fun r1 =>
 some ([.p (.bool ((r1.1.headD .undef).pv.toBool))],[]):=by kernel_rfl
end Go.Skm.Fig

