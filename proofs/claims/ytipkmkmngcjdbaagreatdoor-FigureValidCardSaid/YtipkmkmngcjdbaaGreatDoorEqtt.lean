/-
  What the machine does in each function of this program, and in each round of each loop; no condition.
-/
import Derived.Test.YtipkmkmngcjdbaaGreatDoorEqt
import Derived.Test.YtipkmkmngcjdbaaGreatDoorEqst
set_option maxRecDepth 100000
namespace Go.Skm.Fig
open Go Go.Skm
def S42_11111010 (out':ByteArray) (i':Int) (s_b0:Int) (s_b1:List PV) (s_b2:Int) (s_b3:Int) (s_b4:Int) (s_b5:Int):St:=⟨.undef::(.ptr 1 0 0)::.undef::(.p (.str out'))::(.p (.int .i64 i'))::List.replicate 80 .undef,[(1,.box [.p (.int .i64 s_b0),.p (.list true kV3 s_b1),.p (.int .i64 s_b2),.p (.int .i64 s_b3),.p (.int .i64 s_b4),.p (.int .i64 s_b5)])]⟩
theorem e42 (C:CallF) (s_0:Int) (s_1:List PV) (s_2:Int) (s_3:Int) (s_4:Int) (s_5:Int):acallI tab C 42 [.p (.agg [.int .i64 s_0,.list true kV3 s_1,.int .i64 s_2,.int .i64 s_3,.int .i64 s_4,.int .i64 s_5])] [] =
 bif ((leI (0:Int) s_0)&&(ltI s_0 (6:Int))) then bif (s_0==(2:Int)) then
  bif (leN ((((kindL.getD (0+s_0.toNat) .nil).cell 0).toStr).size+(⟨#[32]⟩:ByteArray).size) 4611686018427387904) then(C 77 [.p (.int .i64 s_2)] []).bind fun r1 =>
  bif (leN ((((kindL.getD (0+s_0.toNat) .nil).cell 0).toStr++(⟨#[32]⟩:ByteArray)).size+((r1.1.headD .undef).pv.toStr).size) 4611686018427387904) then bif (s_0==(4:Int)) then
   bif (leN (((((kindL.getD (0+s_0.toNat) .nil).cell 0).toStr++(⟨#[32]⟩:ByteArray))++(r1.1.headD .undef).pv.toStr).size+(⟨#[32]⟩:ByteArray).size) 4611686018427387904) then bif ((leI (0:Int) s_5)&&(ltI s_5 (3:Int))) then bif (leN ((((((kindL.getD (0+s_0.toNat) .nil).cell 0).toStr++(⟨#[32]⟩:ByteArray))++(r1.1.headD .undef).pv.toStr)++(⟨#[32]⟩:ByteArray)).size+(((planeL.getD (0+s_5.toNat) .nil).cell 0).toStr).size) 4611686018427387904) then bif (geI s_0 (4:Int)) then
    bif (leN (((((((kindL.getD (0+s_0.toNat) .nil).cell 0).toStr++(⟨#[32]⟩:ByteArray))++(r1.1.headD .undef).pv.toStr)++(⟨#[32]⟩:ByteArray))++((planeL.getD (0+s_5.toNat) .nil).cell 0).toStr).size+(⟨#[32]⟩:ByteArray).size) 4611686018427387904) then(C 77 [.p (.int .i64 s_3)] []).bind fun r2 =>
    bif (leN ((((((((kindL.getD (0+s_0.toNat) .nil).cell 0).toStr++(⟨#[32]⟩:ByteArray))++(r1.1.headD .undef).pv.toStr)++(⟨#[32]⟩:ByteArray))++((planeL.getD (0+s_5.toNat) .nil).cell 0).toStr)++(⟨#[32]⟩:ByteArray)).size+((r2.1.headD .undef).pv.toStr).size) 4611686018427387904) then bif (leN (((((((((kindL.getD (0+s_0.toNat) .nil).cell 0).toStr++(⟨#[32]⟩:ByteArray))++(r1.1.headD .undef).pv.toStr)++(⟨#[32]⟩:ByteArray))++((planeL.getD (0+s_5.toNat) .nil).cell 0).toStr)++(⟨#[32]⟩:ByteArray))++(r2.1.headD .undef).pv.toStr).size+(⟨#[32]⟩:ByteArray).size) 4611686018427387904) then(C 77 [.p (.int .i64 s_4)] []).bind fun r3 =>
    bif (leN ((((((((((kindL.getD (0+s_0.toNat) .nil).cell 0).toStr++(⟨#[32]⟩:ByteArray))++(r1.1.headD .undef).pv.toStr)++(⟨#[32]⟩:ByteArray))++((planeL.getD (0+s_5.toNat) .nil).cell 0).toStr)++(⟨#[32]⟩:ByteArray))++(r2.1.headD .undef).pv.toStr)++(⟨#[32]⟩:ByteArray)).size+((r3.1.headD .undef).pv.toStr).size) 4611686018427387904) then L tab C 42 [] [.lp [1,1,1,1,1,0,1,0]] (S42_11111010 ((((((((((kindL.getD (0+s_0.toNat) .nil).cell 0).toStr++(⟨#[32]⟩:ByteArray))++(r1.1.headD .undef).pv.toStr)++(⟨#[32]⟩:ByteArray))++((planeL.getD (0+s_5.toNat) .nil).cell 0).toStr)++(⟨#[32]⟩:ByteArray))++(r2.1.headD .undef).pv.toStr)++(⟨#[32]⟩:ByteArray))++(r3.1.headD .undef).pv.toStr) 0 s_0 s_1 s_2 s_3 s_4 s_5) else none else none else none else none
   else
    L tab C 42 [] [.lp [1,1,1,1,1,0,1,0]] (S42_11111010 ((((((kindL.getD (0+s_0.toNat) .nil).cell 0).toStr++(⟨#[32]⟩:ByteArray))++(r1.1.headD .undef).pv.toStr)++(⟨#[32]⟩:ByteArray))++((planeL.getD (0+s_5.toNat) .nil).cell 0).toStr) 0 s_0 s_1 s_2 s_3 s_4 s_5) else none else none else none
  else
   bif (geI s_0 (4:Int)) then
    bif (leN (((((kindL.getD (0+s_0.toNat) .nil).cell 0).toStr++(⟨#[32]⟩:ByteArray))++(r1.1.headD .undef).pv.toStr).size+(⟨#[32]⟩:ByteArray).size) 4611686018427387904) then(C 77 [.p (.int .i64 s_3)] []).bind fun r4 =>
    bif (leN ((((((kindL.getD (0+s_0.toNat) .nil).cell 0).toStr++(⟨#[32]⟩:ByteArray))++(r1.1.headD .undef).pv.toStr)++(⟨#[32]⟩:ByteArray)).size+((r4.1.headD .undef).pv.toStr).size) 4611686018427387904) then bif (leN (((((((kindL.getD (0+s_0.toNat) .nil).cell 0).toStr++(⟨#[32]⟩:ByteArray))++(r1.1.headD .undef).pv.toStr)++(⟨#[32]⟩:ByteArray))++(r4.1.headD .undef).pv.toStr).size+(⟨#[32]⟩:ByteArray).size) 4611686018427387904) then(C 77 [.p (.int .i64 s_4)] []).bind fun r5 =>
    bif (leN ((((((((kindL.getD (0+s_0.toNat) .nil).cell 0).toStr++(⟨#[32]⟩:ByteArray))++(r1.1.headD .undef).pv.toStr)++(⟨#[32]⟩:ByteArray))++(r4.1.headD .undef).pv.toStr)++(⟨#[32]⟩:ByteArray)).size+((r5.1.headD .undef).pv.toStr).size) 4611686018427387904) then L tab C 42 [] [.lp [1,1,1,1,1,0,1,0]] (S42_11111010 ((((((((kindL.getD (0+s_0.toNat) .nil).cell 0).toStr++(⟨#[32]⟩:ByteArray))++(r1.1.headD .undef).pv.toStr)++(⟨#[32]⟩:ByteArray))++(r4.1.headD .undef).pv.toStr)++(⟨#[32]⟩:ByteArray))++(r5.1.headD .undef).pv.toStr) 0 s_0 s_1 s_2 s_3 s_4 s_5) else none else none else none else none
   else
    L tab C 42 [] [.lp [1,1,1,1,1,0,1,0]] (S42_11111010 ((((kindL.getD (0+s_0.toNat) .nil).cell 0).toStr++(⟨#[32]⟩:ByteArray))++(r1.1.headD .undef).pv.toStr) 0 s_0 s_1 s_2 s_3 s_4 s_5) else none else none
 else
  bif (s_0==(3:Int)) then
   bif (leN ((((kindL.getD (0+s_0.toNat) .nil).cell 0).toStr).size+(⟨#[32]⟩:ByteArray).size) 4611686018427387904) then(C 77 [.p (.int .i64 s_2)] []).bind fun r6 =>
   bif (leN ((((kindL.getD (0+s_0.toNat) .nil).cell 0).toStr++(⟨#[32]⟩:ByteArray)).size+((r6.1.headD .undef).pv.toStr).size) 4611686018427387904) then bif (s_0==(4:Int)) then
    bif (leN (((((kindL.getD (0+s_0.toNat) .nil).cell 0).toStr++(⟨#[32]⟩:ByteArray))++(r6.1.headD .undef).pv.toStr).size+(⟨#[32]⟩:ByteArray).size) 4611686018427387904) then bif ((leI (0:Int) s_5)&&(ltI s_5 (3:Int))) then bif (leN ((((((kindL.getD (0+s_0.toNat) .nil).cell 0).toStr++(⟨#[32]⟩:ByteArray))++(r6.1.headD .undef).pv.toStr)++(⟨#[32]⟩:ByteArray)).size+(((planeL.getD (0+s_5.toNat) .nil).cell 0).toStr).size) 4611686018427387904) then bif (geI s_0 (4:Int)) then
     bif (leN (((((((kindL.getD (0+s_0.toNat) .nil).cell 0).toStr++(⟨#[32]⟩:ByteArray))++(r6.1.headD .undef).pv.toStr)++(⟨#[32]⟩:ByteArray))++((planeL.getD (0+s_5.toNat) .nil).cell 0).toStr).size+(⟨#[32]⟩:ByteArray).size) 4611686018427387904) then(C 77 [.p (.int .i64 s_3)] []).bind fun r7 =>
     bif (leN ((((((((kindL.getD (0+s_0.toNat) .nil).cell 0).toStr++(⟨#[32]⟩:ByteArray))++(r6.1.headD .undef).pv.toStr)++(⟨#[32]⟩:ByteArray))++((planeL.getD (0+s_5.toNat) .nil).cell 0).toStr)++(⟨#[32]⟩:ByteArray)).size+((r7.1.headD .undef).pv.toStr).size) 4611686018427387904) then bif (leN (((((((((kindL.getD (0+s_0.toNat) .nil).cell 0).toStr++(⟨#[32]⟩:ByteArray))++(r6.1.headD .undef).pv.toStr)++(⟨#[32]⟩:ByteArray))++((planeL.getD (0+s_5.toNat) .nil).cell 0).toStr)++(⟨#[32]⟩:ByteArray))++(r7.1.headD .undef).pv.toStr).size+(⟨#[32]⟩:ByteArray).size) 4611686018427387904) then(C 77 [.p (.int .i64 s_4)] []).bind fun r8 =>
     bif (leN ((((((((((kindL.getD (0+s_0.toNat) .nil).cell 0).toStr++(⟨#[32]⟩:ByteArray))++(r6.1.headD .undef).pv.toStr)++(⟨#[32]⟩:ByteArray))++((planeL.getD (0+s_5.toNat) .nil).cell 0).toStr)++(⟨#[32]⟩:ByteArray))++(r7.1.headD .undef).pv.toStr)++(⟨#[32]⟩:ByteArray)).size+((r8.1.headD .undef).pv.toStr).size) 4611686018427387904) then L tab C 42 [] [.lp [1,1,1,1,1,0,1,0]] (S42_11111010 ((((((((((kindL.getD (0+s_0.toNat) .nil).cell 0).toStr++(⟨#[32]⟩:ByteArray))++(r6.1.headD .undef).pv.toStr)++(⟨#[32]⟩:ByteArray))++((planeL.getD (0+s_5.toNat) .nil).cell 0).toStr)++(⟨#[32]⟩:ByteArray))++(r7.1.headD .undef).pv.toStr)++(⟨#[32]⟩:ByteArray))++(r8.1.headD .undef).pv.toStr) 0 s_0 s_1 s_2 s_3 s_4 s_5) else none else none else none else none
    else
     L tab C 42 [] [.lp [1,1,1,1,1,0,1,0]] (S42_11111010 ((((((kindL.getD (0+s_0.toNat) .nil).cell 0).toStr++(⟨#[32]⟩:ByteArray))++(r6.1.headD .undef).pv.toStr)++(⟨#[32]⟩:ByteArray))++((planeL.getD (0+s_5.toNat) .nil).cell 0).toStr) 0 s_0 s_1 s_2 s_3 s_4 s_5) else none else none else none
   else
    bif (geI s_0 (4:Int)) then
     bif (leN (((((kindL.getD (0+s_0.toNat) .nil).cell 0).toStr++(⟨#[32]⟩:ByteArray))++(r6.1.headD .undef).pv.toStr).size+(⟨#[32]⟩:ByteArray).size) 4611686018427387904) then(C 77 [.p (.int .i64 s_3)] []).bind fun r9 =>
     bif (leN ((((((kindL.getD (0+s_0.toNat) .nil).cell 0).toStr++(⟨#[32]⟩:ByteArray))++(r6.1.headD .undef).pv.toStr)++(⟨#[32]⟩:ByteArray)).size+((r9.1.headD .undef).pv.toStr).size) 4611686018427387904) then bif (leN (((((((kindL.getD (0+s_0.toNat) .nil).cell 0).toStr++(⟨#[32]⟩:ByteArray))++(r6.1.headD .undef).pv.toStr)++(⟨#[32]⟩:ByteArray))++(r9.1.headD .undef).pv.toStr).size+(⟨#[32]⟩:ByteArray).size) 4611686018427387904) then(C 77 [.p (.int .i64 s_4)] []).bind fun r10 =>
     bif (leN ((((((((kindL.getD (0+s_0.toNat) .nil).cell 0).toStr++(⟨#[32]⟩:ByteArray))++(r6.1.headD .undef).pv.toStr)++(⟨#[32]⟩:ByteArray))++(r9.1.headD .undef).pv.toStr)++(⟨#[32]⟩:ByteArray)).size+((r10.1.headD .undef).pv.toStr).size) 4611686018427387904) then L tab C 42 [] [.lp [1,1,1,1,1,0,1,0]] (S42_11111010 ((((((((kindL.getD (0+s_0.toNat) .nil).cell 0).toStr++(⟨#[32]⟩:ByteArray))++(r6.1.headD .undef).pv.toStr)++(⟨#[32]⟩:ByteArray))++(r9.1.headD .undef).pv.toStr)++(⟨#[32]⟩:ByteArray))++(r10.1.headD .undef).pv.toStr) 0 s_0 s_1 s_2 s_3 s_4 s_5) else none else none else none else none
    else
     L tab C 42 [] [.lp [1,1,1,1,1,0,1,0]] (S42_11111010 ((((kindL.getD (0+s_0.toNat) .nil).cell 0).toStr++(⟨#[32]⟩:ByteArray))++(r6.1.headD .undef).pv.toStr) 0 s_0 s_1 s_2 s_3 s_4 s_5) else none else none
  else
   bif (s_0==(4:Int)) then
    bif (leN ((((kindL.getD (0+s_0.toNat) .nil).cell 0).toStr).size+(⟨#[32]⟩:ByteArray).size) 4611686018427387904) then bif ((leI (0:Int) s_5)&&(ltI s_5 (3:Int))) then bif (leN ((((kindL.getD (0+s_0.toNat) .nil).cell 0).toStr++(⟨#[32]⟩:ByteArray)).size+(((planeL.getD (0+s_5.toNat) .nil).cell 0).toStr).size) 4611686018427387904) then bif (geI s_0 (4:Int)) then
     bif (leN (((((kindL.getD (0+s_0.toNat) .nil).cell 0).toStr++(⟨#[32]⟩:ByteArray))++((planeL.getD (0+s_5.toNat) .nil).cell 0).toStr).size+(⟨#[32]⟩:ByteArray).size) 4611686018427387904) then(C 77 [.p (.int .i64 s_3)] []).bind fun r11 =>
     bif (leN ((((((kindL.getD (0+s_0.toNat) .nil).cell 0).toStr++(⟨#[32]⟩:ByteArray))++((planeL.getD (0+s_5.toNat) .nil).cell 0).toStr)++(⟨#[32]⟩:ByteArray)).size+((r11.1.headD .undef).pv.toStr).size) 4611686018427387904) then bif (leN (((((((kindL.getD (0+s_0.toNat) .nil).cell 0).toStr++(⟨#[32]⟩:ByteArray))++((planeL.getD (0+s_5.toNat) .nil).cell 0).toStr)++(⟨#[32]⟩:ByteArray))++(r11.1.headD .undef).pv.toStr).size+(⟨#[32]⟩:ByteArray).size) 4611686018427387904) then(C 77 [.p (.int .i64 s_4)] []).bind fun r12 =>
     bif (leN ((((((((kindL.getD (0+s_0.toNat) .nil).cell 0).toStr++(⟨#[32]⟩:ByteArray))++((planeL.getD (0+s_5.toNat) .nil).cell 0).toStr)++(⟨#[32]⟩:ByteArray))++(r11.1.headD .undef).pv.toStr)++(⟨#[32]⟩:ByteArray)).size+((r12.1.headD .undef).pv.toStr).size) 4611686018427387904) then L tab C 42 [] [.lp [1,1,1,1,1,0,1,0]] (S42_11111010 ((((((((kindL.getD (0+s_0.toNat) .nil).cell 0).toStr++(⟨#[32]⟩:ByteArray))++((planeL.getD (0+s_5.toNat) .nil).cell 0).toStr)++(⟨#[32]⟩:ByteArray))++(r11.1.headD .undef).pv.toStr)++(⟨#[32]⟩:ByteArray))++(r12.1.headD .undef).pv.toStr) 0 s_0 s_1 s_2 s_3 s_4 s_5) else none else none else none else none
    else
     L tab C 42 [] [.lp [1,1,1,1,1,0,1,0]] (S42_11111010 ((((kindL.getD (0+s_0.toNat) .nil).cell 0).toStr++(⟨#[32]⟩:ByteArray))++((planeL.getD (0+s_5.toNat) .nil).cell 0).toStr) 0 s_0 s_1 s_2 s_3 s_4 s_5) else none else none else none
   else
    bif (geI s_0 (4:Int)) then
     bif (leN ((((kindL.getD (0+s_0.toNat) .nil).cell 0).toStr).size+(⟨#[32]⟩:ByteArray).size) 4611686018427387904) then(C 77 [.p (.int .i64 s_3)] []).bind fun r13 =>
     bif (leN ((((kindL.getD (0+s_0.toNat) .nil).cell 0).toStr++(⟨#[32]⟩:ByteArray)).size+((r13.1.headD .undef).pv.toStr).size) 4611686018427387904) then bif (leN (((((kindL.getD (0+s_0.toNat) .nil).cell 0).toStr++(⟨#[32]⟩:ByteArray))++(r13.1.headD .undef).pv.toStr).size+(⟨#[32]⟩:ByteArray).size) 4611686018427387904) then(C 77 [.p (.int .i64 s_4)] []).bind fun r14 =>
     bif (leN ((((((kindL.getD (0+s_0.toNat) .nil).cell 0).toStr++(⟨#[32]⟩:ByteArray))++(r13.1.headD .undef).pv.toStr)++(⟨#[32]⟩:ByteArray)).size+((r14.1.headD .undef).pv.toStr).size) 4611686018427387904) then L tab C 42 [] [.lp [1,1,1,1,1,0,1,0]] (S42_11111010 ((((((kindL.getD (0+s_0.toNat) .nil).cell 0).toStr++(⟨#[32]⟩:ByteArray))++(r13.1.headD .undef).pv.toStr)++(⟨#[32]⟩:ByteArray))++(r14.1.headD .undef).pv.toStr) 0 s_0 s_1 s_2 s_3 s_4 s_5) else none else none else none else none
    else
     L tab C 42 [] [.lp [1,1,1,1,1,0,1,0]] (S42_11111010 (((kindL.getD (0+s_0.toNat) .nil).cell 0).toStr) 0 s_0 s_1 s_2 s_3 s_4 s_5) else none:=by kernel_rfl
theorem e42_11111010 (C:CallF) (out':ByteArray) (i':Int) (s_b0:Int) (s_b1:List PV) (s_b2:Int) (s_b3:Int) (s_b4:Int) (s_b5:Int):R tab C 42 [] [.lp [1,1,1,1,1,0,1,0]] (S42_11111010 out' i' s_b0 s_b1 s_b2 s_b3 s_b4 s_b5) =
 bif (ltI i' ((s_b1.length:Nat):Int)) then
  bif (leN (out'.size+(⟨#[32]⟩:ByteArray).size) 4611686018427387904) then bif ((leI (0:Int) i')&&(ltI i' ((s_b1.length:Nat):Int))) then(C 77 [.p (.int .i64 (((s_b1.getD i'.toNat .nil).cell 0).toInt))] []).bind fun r1 =>
  bif (leN ((out'++(⟨#[32]⟩:ByteArray)).size+((r1.1.headD .undef).pv.toStr).size) 4611686018427387904) then bif (leN (((out'++(⟨#[32]⟩:ByteArray))++(r1.1.headD .undef).pv.toStr).size+(⟨#[32]⟩:ByteArray).size) 4611686018427387904) then bif ((leI (0:Int) i')&&(ltI i' ((s_b1.length:Nat):Int))) then(C 77 [.p (.int .i64 (((s_b1.getD i'.toNat .nil).cell 1).toInt))] []).bind fun r2 =>
  bif (leN ((((out'++(⟨#[32]⟩:ByteArray))++(r1.1.headD .undef).pv.toStr)++(⟨#[32]⟩:ByteArray)).size+((r2.1.headD .undef).pv.toStr).size) 4611686018427387904) then bif (leN (((((out'++(⟨#[32]⟩:ByteArray))++(r1.1.headD .undef).pv.toStr)++(⟨#[32]⟩:ByteArray))++(r2.1.headD .undef).pv.toStr).size+(⟨#[32]⟩:ByteArray).size) 4611686018427387904) then bif ((leI (0:Int) i')&&(ltI i' ((s_b1.length:Nat):Int))) then(C 77 [.p (.int .i64 (((s_b1.getD i'.toNat .nil).cell 2).toInt))] []).bind fun r3 =>
  bif (leN ((((((out'++(⟨#[32]⟩:ByteArray))++(r1.1.headD .undef).pv.toStr)++(⟨#[32]⟩:ByteArray))++(r2.1.headD .undef).pv.toStr)++(⟨#[32]⟩:ByteArray)).size+((r3.1.headD .undef).pv.toStr).size) 4611686018427387904) then L tab C 42 [] [.lp [1,1,1,1,1,0,1,0]] (S42_11111010 ((((((out'++(⟨#[32]⟩:ByteArray))++(r1.1.headD .undef).pv.toStr)++(⟨#[32]⟩:ByteArray))++(r2.1.headD .undef).pv.toStr)++(⟨#[32]⟩:ByteArray))++(r3.1.headD .undef).pv.toStr) (IntKind.i64.wrap (i'+(1:Int))) s_b0 s_b1 s_b2 s_b3 s_b4 s_b5) else none else none else none else none else none else none else none else none else none
 else
  some ([.p (.str out')],[]):=by kernel_rfl
def S55_11010 (s2':List PV) (t15':List PV) (t16':Int) (t17':Int):St:=⟨.undef::(.p (.list true kSh s2'))::(.p (.fn 56 []))::.undef::.undef::.undef::.undef::.undef::.undef::.undef::.undef::.undef::.undef::.undef::.undef::(.p (.list true kSh t15'))::(.p (.int .i64 t16'))::(.p (.int .i64 t17'))::List.replicate 14 .undef,[]⟩
theorem e55 (C:CallF) (s1:List PV) (s2:List PV):acallI tab C 55 [.p (.list true kSh s1),.p (.list true kSh s2),.p (.fn 56 [])] [] =
 bif (((s1.length:Nat):Int) != ((s2.length:Nat):Int)) then
  some ([.p (.bool false)],[])
 else
  L tab C 55 [] [.lp [1,1,0,1,0]] (S55_11010 s2 s1 ((s1.length:Nat):Int) 0):=by kernel_rfl
theorem e55_11010 (C:CallF) (s2':List PV) (t15':List PV) (t16':Int) (t17':Int):R tab C 55 [] [.lp [1,1,0,1,0]] (S55_11010 s2' t15' t16' t17') =
 bif (ltI t17' t16') then
  bif ((leI (0:Int) t17')&&(ltI t17' ((t15'.length:Nat):Int))) then bif ((leI (0:Int) t17')&&(ltI t17' ((s2'.length:Nat):Int))) then(C 56 [.p (.agg [.int .i64 (((t15'.getD t17'.toNat .nil).cell 0).toInt),.list true kV3 (((t15'.getD t17'.toNat .nil).cell 1).toList),.int .i64 (((t15'.getD t17'.toNat .nil).cell 2).toInt),.int .i64 (((t15'.getD t17'.toNat .nil).cell 3).toInt),.int .i64 (((t15'.getD t17'.toNat .nil).cell 4).toInt),.int .i64 (((t15'.getD t17'.toNat .nil).cell 5).toInt)]),.p (.agg [.int .i64 (((s2'.getD t17'.toNat .nil).cell 0).toInt),.list true kV3 (((s2'.getD t17'.toNat .nil).cell 1).toList),.int .i64 (((s2'.getD t17'.toNat .nil).cell 2).toInt),.int .i64 (((s2'.getD t17'.toNat .nil).cell 3).toInt),.int .i64 (((s2'.getD t17'.toNat .nil).cell 4).toInt),.int .i64 (((s2'.getD t17'.toNat .nil).cell 5).toInt)])] []).bind fun r1 =>
  bif (!(r1.1.headD .undef).pv.toBool) then
   some ([.p (.bool false)],[])
  else
   L tab C 55 [] [.lp [1,1,0,1,0]] (S55_11010 s2' t15' t16' (IntKind.i64.wrap (t17'+(1:Int)))) else none else none
 else
  some ([.p (.bool true)],[]):=by kernel_rfl
theorem e56 (C:CallF) (x_0:Int) (x_1:List PV) (x_2:Int) (x_3:Int) (x_4:Int) (x_5:Int) (y_0:Int) (y_1:List PV) (y_2:Int) (y_3:Int) (y_4:Int) (y_5:Int):acallI tab C 56 [.p (.agg [.int .i64 x_0,.list true kV3 x_1,.int .i64 x_2,.int .i64 x_3,.int .i64 x_4,.int .i64 x_5]),.p (.agg [.int .i64 y_0,.list true kV3 y_1,.int .i64 y_2,.int .i64 y_3,.int .i64 y_4,.int .i64 y_5])] [] =
 bif (x_0==y_0) then
  (C 57 [.p (.list true kV3 x_1),.p (.list true kV3 y_1)] []).bind fun r1 =>
  bif (r1.1.headD .undef).pv.toBool then
   bif (x_2==y_2) then
    bif (x_3==y_3) then
     bif (x_4==y_4) then
      some ([.p (.bool (x_5==y_5))],[])
     else
      some ([.p (.bool false)],[])
    else
     some ([.p (.bool false)],[])
   else
    some ([.p (.bool false)],[])
  else
   some ([.p (.bool false)],[])
 else
  some ([.p (.bool false)],[]):=by kernel_rfl
def S57_11010 (s1':List PV) (s2':List PV) (t12':Int) (t13':Int):St:=⟨(.p (.list true kV3 s1'))::(.p (.list true kV3 s2'))::.undef::.undef::.undef::.undef::.undef::.undef::.undef::.undef::.undef::.undef::(.p (.int .i64 t12'))::(.p (.int .i64 t13'))::List.replicate 12 .undef,[]⟩
theorem e57 (C:CallF) (s1:List PV) (s2:List PV):acallI tab C 57 [.p (.list true kV3 s1),.p (.list true kV3 s2)] [] =
 bif (((s1.length:Nat):Int) != ((s2.length:Nat):Int)) then
  some ([.p (.bool false)],[])
 else
  L tab C 57 [] [.lp [1,1,0,1,0]] (S57_11010 s1 s2 ((s1.length:Nat):Int) 0):=by kernel_rfl
theorem e57_11010 (C:CallF) (s1':List PV) (s2':List PV) (t12':Int) (t13':Int):R tab C 57 [] [.lp [1,1,0,1,0]] (S57_11010 s1' s2' t12' t13') =
 bif (ltI t13' t12') then
  bif ((leI (0:Int) t13')&&(ltI t13' ((s1'.length:Nat):Int))) then bif ((leI (0:Int) t13')&&(ltI t13' ((s2'.length:Nat):Int))) then bif (!((((s1'.getD t13'.toNat .nil).cell 0).toInt==((s2'.getD t13'.toNat .nil).cell 0).toInt)&&((((s1'.getD t13'.toNat .nil).cell 1).toInt==((s2'.getD t13'.toNat .nil).cell 1).toInt)&&((((s1'.getD t13'.toNat .nil).cell 2).toInt==((s2'.getD t13'.toNat .nil).cell 2).toInt)&&true)))) then
   some ([.p (.bool false)],[])
  else
   L tab C 57 [] [.lp [1,1,0,1,0]] (S57_11010 s1' s2' t12' (IntKind.i64.wrap (t13'+(1:Int)))) else none else none
 else
  some ([.p (.bool true)],[]):=by kernel_rfl
theorem e77 (C:CallF) (n_:Int):acallI tab C 77 [.p (.int .i64 n_)] [] =
 bif (ltI n_ (0:Int)) then
  (C 77 [.p (.int .i64 (IntKind.i64.wrap (0-n_)))] []).bind fun r1 =>
  bif (leN ((⟨#[45]⟩:ByteArray).size+((r1.1.headD .undef).pv.toStr).size) 4611686018427387904) then some ([.p (.str ((⟨#[45]⟩:ByteArray)++(r1.1.headD .undef).pv.toStr))],[]) else none
 else
  bif (ltI n_ (10:Int)) then
   bif ((leI (0:Int) n_)&&((leI n_ (IntKind.i64.wrap (n_+(1:Int))))&&(leI (IntKind.i64.wrap (n_+(1:Int))) (10:Int)))) then some ([.p (.str ((⟨#[48,49,50,51,52,53,54,55,56,57]⟩:ByteArray).extract n_.toNat ((IntKind.i64.wrap (n_+(1:Int))).toNat)))],[]) else none
  else
   (C 77 [.p (.int .i64 (IntKind.i64.wrap (n_.tdiv (10:Int))))] []).bind fun r2 =>
   (C 77 [.p (.int .i64 (n_.tmod (10:Int)))] []).bind fun r3 =>
   bif (leN (((r2.1.headD .undef).pv.toStr).size+((r3.1.headD .undef).pv.toStr).size) 4611686018427387904) then some ([.p (.str ((r2.1.headD .undef).pv.toStr++(r3.1.headD .undef).pv.toStr))],[]) else none:=by kernel_rfl
end Go.Skm.Fig

