/-
  What the machine does in each function of this program, and in each round of each loop; no condition.
-/
import Derived.Test.YtipkmkmngcjdbaaGreatDoorSkmE
import Derived.Test.YtipkmkmngcjdbaaGreatDoorTab
import Derived.KernelRfl
set_option maxRecDepth 100000
namespace Go.Skm.Fig
open Go Go.Skm
theorem aiP (C:aF) (s_0 s_2 zZ Aa oL:Int):bn tab C 54 [.p (.agg [.int .i64 s_0,.nil,.int .i64 s_2,.int .i64 zZ,.int .i64 Aa,.int .i64 oL])] [] =
 (C 73 [.p (.int .i64 s_0)] []).bind fun r1 =>
 bif (!(r1.1.tail.headD .undef).pv.toBool) then
  some ([.p (.bool false)],[])
 else
  bif (jo (0:Int) (((r1.1.headD .undef).pv.cell 1).toInt)) then
   some ([.p (.bool false)],[])
  else
   bif (Dt (0:Int) (((r1.1.headD .undef).pv.cell 2).toInt)) then
    some ([.p (.bool false)],[])
   else
    bif (oL != (0:Int)) then
     bif (!((r1.1.headD .undef).pv.cell 5).toBool) then
      some ([.p (.bool false)],[])
     else
      bif (jo oL (0:Int)) then
       some ([.p (.bool false)],[])
      else
       bif (Dt oL (2:Int)) then
        some ([.p (.bool false)],[])
       else
        (C 89 [.p (.bool (((r1.1.headD .undef).pv.cell 3).toBool)),.p (.int .i64 s_2),.p (.int .i64 500)] []).bind fun r2 =>
        bif (r2.1.headD .undef).pv.toBool then
         (C 89 [.p (.bool (((r1.1.headD .undef).pv.cell 4).toBool)),.p (.int .i64 zZ),.p (.int .i64 50)] []).bind fun r3 =>
         bif (r3.1.headD .undef).pv.toBool then
          (C 89 [.p (.bool (((r1.1.headD .undef).pv.cell 4).toBool)),.p (.int .i64 Aa),.p (.int .i64 10000)] []).bind fun r4 =>
          bif (r4.1.headD .undef).pv.toBool then
           (C 90 [.p (.list true gU []),.p (.fn 91 [])] []).bind fun r5 =>
           some ([.p (.bool (!(r5.1.headD .undef).pv.toBool))],[])
          else
           some ([.p (.bool false)],[])
         else
          some ([.p (.bool false)],[])
        else
         some ([.p (.bool false)],[])
    else
     (C 89 [.p (.bool (((r1.1.headD .undef).pv.cell 3).toBool)),.p (.int .i64 s_2),.p (.int .i64 500)] []).bind fun r6 =>
     bif (r6.1.headD .undef).pv.toBool then
      (C 89 [.p (.bool (((r1.1.headD .undef).pv.cell 4).toBool)),.p (.int .i64 zZ),.p (.int .i64 50)] []).bind fun r7 =>
      bif (r7.1.headD .undef).pv.toBool then
       (C 89 [.p (.bool (((r1.1.headD .undef).pv.cell 4).toBool)),.p (.int .i64 Aa),.p (.int .i64 10000)] []).bind fun r8 =>
       bif (r8.1.headD .undef).pv.toBool then
        (C 90 [.p (.list true gU []),.p (.fn 91 [])] []).bind fun r9 =>
        some ([.p (.bool (!(r9.1.headD .undef).pv.toBool))],[])
       else
        some ([.p (.bool false)],[])
      else
       some ([.p (.bool false)],[])
     else
      some ([.p (.bool false)],[]):=by kernel_rfl
end Go.Skm.Fig
