/-
  What the machine does with a shape without corners, nil in their place, in the document's test; no condition.
-/
import Derived.Test.YtipkmkmngcjdbaaGreatDoorSkmE
import Derived.Test.YtipkmkmngcjdbaaGreatDoorTab
import Derived.KernelRfl
set_option maxRecDepth 100000
namespace Go.Skm.Fig
open Go Go.Skm
theorem e35n (C:CallF) (s_0 s_2 s_3 s_4 s_5:Int):acallI tab C 35 [.p (.agg [.int .i64 s_0,.nil,.int .i64 s_2,.int .i64 s_3,.int .i64 s_4,.int .i64 s_5])] [] =
 bif (gtI (0:Int) (200:Int)) then
  some ([.p (.bool false)],[])
 else
  (C 37 [.p (.list true kV3 [])] []).bind fun r1 =>
  bif (!(r1.1.headD .undef).pv.toBool) then
   some ([.p (.bool false)],[])
  else
   (C 67 [.p (.int .i64 s_3),.p (.int .i64 1),.p (.int .i64 50)] []).bind fun r2 =>
   bif (r2.1.headD .undef).pv.toBool then
    (C 67 [.p (.int .i64 s_4),.p (.int .i64 1),.p (.int .i64 10000)] []).bind fun r3 =>
    bif (r3.1.headD .undef).pv.toBool then
     bif (s_2==(0:Int)) then
      bif (s_3==(0:Int)) then
       bif (s_4==(0:Int)) then
        bif (s_0==(1:Int)) then
         bif (geI (0:Int) (1:Int)) then
          bif (s_5==(0:Int)) then
           some ([.p (.bool (s_2==(0:Int)))],[])
          else
           some ([.p (.bool false)],[])
         else
          some ([.p (.bool false)],[])
        else
         bif (s_0==(2:Int)) then
          bif (geI (0:Int) (2:Int)) then
           bif (s_5==(0:Int)) then
            (C 67 [.p (.int .i64 s_2),.p (.int .i64 1),.p (.int .i64 500)] []).bind fun r4 =>
            some ([.p (.bool ((r4.1.headD .undef).pv.toBool))],[])
           else
            some ([.p (.bool false)],[])
          else
           some ([.p (.bool false)],[])
         else
          bif (s_0==(3:Int)) then
           bif (geI (0:Int) (3:Int)) then
            bif (s_5==(0:Int)) then
             (C 67 [.p (.int .i64 s_2),.p (.int .i64 1),.p (.int .i64 500)] []).bind fun r5 =>
             some ([.p (.bool ((r5.1.headD .undef).pv.toBool))],[])
            else
             some ([.p (.bool false)],[])
           else
            some ([.p (.bool false)],[])
          else
           bif (s_0==(4:Int)) then
            bif ((0:Int)==(1:Int)) then
             (C 67 [.p (.int .i64 s_5),.p (.int .i64 0),.p (.int .i64 2)] []).bind fun r6 =>
             some ([.p (.bool ((r6.1.headD .undef).pv.toBool))],[])
            else
             some ([.p (.bool false)],[])
           else
            bif (s_0==(5:Int)) then
             bif ((0:Int)==(1:Int)) then
              some ([.p (.bool (s_5==(0:Int)))],[])
             else
              some ([.p (.bool false)],[])
            else
             some ([.p (.bool false)],[])
       else
        bif (s_0==(1:Int)) then
         bif (geI (0:Int) (1:Int)) then
          some ([.p (.bool false)],[])
         else
          some ([.p (.bool false)],[])
        else
         bif (s_0==(2:Int)) then
          bif (geI (0:Int) (2:Int)) then
           some ([.p (.bool false)],[])
          else
           some ([.p (.bool false)],[])
         else
          bif (s_0==(3:Int)) then
           bif (geI (0:Int) (3:Int)) then
            some ([.p (.bool false)],[])
           else
            some ([.p (.bool false)],[])
          else
           bif (s_0==(4:Int)) then
            bif ((0:Int)==(1:Int)) then
             (C 67 [.p (.int .i64 s_5),.p (.int .i64 0),.p (.int .i64 2)] []).bind fun r7 =>
             some ([.p (.bool ((r7.1.headD .undef).pv.toBool))],[])
            else
             some ([.p (.bool false)],[])
           else
            bif (s_0==(5:Int)) then
             bif ((0:Int)==(1:Int)) then
              some ([.p (.bool (s_5==(0:Int)))],[])
             else
              some ([.p (.bool false)],[])
            else
             some ([.p (.bool false)],[])
      else
       bif (s_0==(1:Int)) then
        bif (geI (0:Int) (1:Int)) then
         some ([.p (.bool false)],[])
        else
         some ([.p (.bool false)],[])
       else
        bif (s_0==(2:Int)) then
         bif (geI (0:Int) (2:Int)) then
          some ([.p (.bool false)],[])
         else
          some ([.p (.bool false)],[])
        else
         bif (s_0==(3:Int)) then
          bif (geI (0:Int) (3:Int)) then
           some ([.p (.bool false)],[])
          else
           some ([.p (.bool false)],[])
         else
          bif (s_0==(4:Int)) then
           bif ((0:Int)==(1:Int)) then
            (C 67 [.p (.int .i64 s_5),.p (.int .i64 0),.p (.int .i64 2)] []).bind fun r8 =>
            some ([.p (.bool ((r8.1.headD .undef).pv.toBool))],[])
           else
            some ([.p (.bool false)],[])
          else
           bif (s_0==(5:Int)) then
            bif ((0:Int)==(1:Int)) then
             some ([.p (.bool (s_5==(0:Int)))],[])
            else
             some ([.p (.bool false)],[])
           else
            some ([.p (.bool false)],[])
     else
      bif (s_3==(0:Int)) then
       bif (s_4==(0:Int)) then
        bif (s_0==(1:Int)) then
         bif (geI (0:Int) (1:Int)) then
          bif (s_5==(0:Int)) then
           some ([.p (.bool (s_2==(0:Int)))],[])
          else
           some ([.p (.bool false)],[])
         else
          some ([.p (.bool false)],[])
        else
         bif (s_0==(2:Int)) then
          bif (geI (0:Int) (2:Int)) then
           bif (s_5==(0:Int)) then
            (C 67 [.p (.int .i64 s_2),.p (.int .i64 1),.p (.int .i64 500)] []).bind fun r9 =>
            some ([.p (.bool ((r9.1.headD .undef).pv.toBool))],[])
           else
            some ([.p (.bool false)],[])
          else
           some ([.p (.bool false)],[])
         else
          bif (s_0==(3:Int)) then
           bif (geI (0:Int) (3:Int)) then
            bif (s_5==(0:Int)) then
             (C 67 [.p (.int .i64 s_2),.p (.int .i64 1),.p (.int .i64 500)] []).bind fun r10 =>
             some ([.p (.bool ((r10.1.headD .undef).pv.toBool))],[])
            else
             some ([.p (.bool false)],[])
           else
            some ([.p (.bool false)],[])
          else
           bif (s_0==(4:Int)) then
            some ([.p (.bool false)],[])
           else
            bif (s_0==(5:Int)) then
             some ([.p (.bool false)],[])
            else
             some ([.p (.bool false)],[])
       else
        bif (s_0==(1:Int)) then
         bif (geI (0:Int) (1:Int)) then
          some ([.p (.bool false)],[])
         else
          some ([.p (.bool false)],[])
        else
         bif (s_0==(2:Int)) then
          bif (geI (0:Int) (2:Int)) then
           some ([.p (.bool false)],[])
          else
           some ([.p (.bool false)],[])
         else
          bif (s_0==(3:Int)) then
           bif (geI (0:Int) (3:Int)) then
            some ([.p (.bool false)],[])
           else
            some ([.p (.bool false)],[])
          else
           bif (s_0==(4:Int)) then
            some ([.p (.bool false)],[])
           else
            bif (s_0==(5:Int)) then
             some ([.p (.bool false)],[])
            else
             some ([.p (.bool false)],[])
      else
       bif (s_0==(1:Int)) then
        bif (geI (0:Int) (1:Int)) then
         some ([.p (.bool false)],[])
        else
         some ([.p (.bool false)],[])
       else
        bif (s_0==(2:Int)) then
         bif (geI (0:Int) (2:Int)) then
          some ([.p (.bool false)],[])
         else
          some ([.p (.bool false)],[])
        else
         bif (s_0==(3:Int)) then
          bif (geI (0:Int) (3:Int)) then
           some ([.p (.bool false)],[])
          else
           some ([.p (.bool false)],[])
         else
          bif (s_0==(4:Int)) then
           some ([.p (.bool false)],[])
          else
           bif (s_0==(5:Int)) then
            some ([.p (.bool false)],[])
           else
            some ([.p (.bool false)],[])
    else
     bif (s_3==(0:Int)) then
      bif (s_4==(0:Int)) then
       bif (s_0==(1:Int)) then
        bif (geI (0:Int) (1:Int)) then
         bif (s_5==(0:Int)) then
          some ([.p (.bool (s_2==(0:Int)))],[])
         else
          some ([.p (.bool false)],[])
        else
         some ([.p (.bool false)],[])
       else
        bif (s_0==(2:Int)) then
         bif (geI (0:Int) (2:Int)) then
          bif (s_5==(0:Int)) then
           (C 67 [.p (.int .i64 s_2),.p (.int .i64 1),.p (.int .i64 500)] []).bind fun r11 =>
           some ([.p (.bool ((r11.1.headD .undef).pv.toBool))],[])
          else
           some ([.p (.bool false)],[])
         else
          some ([.p (.bool false)],[])
        else
         bif (s_0==(3:Int)) then
          bif (geI (0:Int) (3:Int)) then
           bif (s_5==(0:Int)) then
            (C 67 [.p (.int .i64 s_2),.p (.int .i64 1),.p (.int .i64 500)] []).bind fun r12 =>
            some ([.p (.bool ((r12.1.headD .undef).pv.toBool))],[])
           else
            some ([.p (.bool false)],[])
          else
           some ([.p (.bool false)],[])
         else
          bif (s_0==(4:Int)) then
           some ([.p (.bool false)],[])
          else
           bif (s_0==(5:Int)) then
            some ([.p (.bool false)],[])
           else
            some ([.p (.bool false)],[])
      else
       bif (s_0==(1:Int)) then
        bif (geI (0:Int) (1:Int)) then
         some ([.p (.bool false)],[])
        else
         some ([.p (.bool false)],[])
       else
        bif (s_0==(2:Int)) then
         bif (geI (0:Int) (2:Int)) then
          some ([.p (.bool false)],[])
         else
          some ([.p (.bool false)],[])
        else
         bif (s_0==(3:Int)) then
          bif (geI (0:Int) (3:Int)) then
           some ([.p (.bool false)],[])
          else
           some ([.p (.bool false)],[])
         else
          bif (s_0==(4:Int)) then
           some ([.p (.bool false)],[])
          else
           bif (s_0==(5:Int)) then
            some ([.p (.bool false)],[])
           else
            some ([.p (.bool false)],[])
     else
      bif (s_0==(1:Int)) then
       bif (geI (0:Int) (1:Int)) then
        some ([.p (.bool false)],[])
       else
        some ([.p (.bool false)],[])
      else
       bif (s_0==(2:Int)) then
        bif (geI (0:Int) (2:Int)) then
         some ([.p (.bool false)],[])
        else
         some ([.p (.bool false)],[])
       else
        bif (s_0==(3:Int)) then
         bif (geI (0:Int) (3:Int)) then
          some ([.p (.bool false)],[])
         else
          some ([.p (.bool false)],[])
        else
         bif (s_0==(4:Int)) then
          some ([.p (.bool false)],[])
         else
          bif (s_0==(5:Int)) then
           some ([.p (.bool false)],[])
          else
           some ([.p (.bool false)],[])
   else
    bif (s_3==(0:Int)) then
     bif (s_4==(0:Int)) then
      bif (s_0==(1:Int)) then
       bif (geI (0:Int) (1:Int)) then
        bif (s_5==(0:Int)) then
         some ([.p (.bool (s_2==(0:Int)))],[])
        else
         some ([.p (.bool false)],[])
       else
        some ([.p (.bool false)],[])
      else
       bif (s_0==(2:Int)) then
        bif (geI (0:Int) (2:Int)) then
         bif (s_5==(0:Int)) then
          (C 67 [.p (.int .i64 s_2),.p (.int .i64 1),.p (.int .i64 500)] []).bind fun r13 =>
          some ([.p (.bool ((r13.1.headD .undef).pv.toBool))],[])
         else
          some ([.p (.bool false)],[])
        else
         some ([.p (.bool false)],[])
       else
        bif (s_0==(3:Int)) then
         bif (geI (0:Int) (3:Int)) then
          bif (s_5==(0:Int)) then
           (C 67 [.p (.int .i64 s_2),.p (.int .i64 1),.p (.int .i64 500)] []).bind fun r14 =>
           some ([.p (.bool ((r14.1.headD .undef).pv.toBool))],[])
          else
           some ([.p (.bool false)],[])
         else
          some ([.p (.bool false)],[])
        else
         bif (s_0==(4:Int)) then
          some ([.p (.bool false)],[])
         else
          bif (s_0==(5:Int)) then
           some ([.p (.bool false)],[])
          else
           some ([.p (.bool false)],[])
     else
      bif (s_0==(1:Int)) then
       bif (geI (0:Int) (1:Int)) then
        some ([.p (.bool false)],[])
       else
        some ([.p (.bool false)],[])
      else
       bif (s_0==(2:Int)) then
        bif (geI (0:Int) (2:Int)) then
         some ([.p (.bool false)],[])
        else
         some ([.p (.bool false)],[])
       else
        bif (s_0==(3:Int)) then
         bif (geI (0:Int) (3:Int)) then
          some ([.p (.bool false)],[])
         else
          some ([.p (.bool false)],[])
        else
         bif (s_0==(4:Int)) then
          some ([.p (.bool false)],[])
         else
          bif (s_0==(5:Int)) then
           some ([.p (.bool false)],[])
          else
           some ([.p (.bool false)],[])
    else
     bif (s_0==(1:Int)) then
      bif (geI (0:Int) (1:Int)) then
       some ([.p (.bool false)],[])
      else
       some ([.p (.bool false)],[])
     else
      bif (s_0==(2:Int)) then
       bif (geI (0:Int) (2:Int)) then
        some ([.p (.bool false)],[])
       else
        some ([.p (.bool false)],[])
      else
       bif (s_0==(3:Int)) then
        bif (geI (0:Int) (3:Int)) then
         some ([.p (.bool false)],[])
        else
         some ([.p (.bool false)],[])
       else
        bif (s_0==(4:Int)) then
         some ([.p (.bool false)],[])
        else
         bif (s_0==(5:Int)) then
          some ([.p (.bool false)],[])
         else
          some ([.p (.bool false)],[]):=by kernel_rfl
end Go.Skm.Fig
