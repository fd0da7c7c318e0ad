import Derived.Test.YtfmoopdnamdobaaDoorSkmF
import Derived.Test.YtfmoopdnamdobaaDoorTab
import Derived.KernelRfl
set_option maxRecDepth 100000
namespace Go.Skm.Prg
open Go Go.Skm
def Ut (jo uM:Int)(aaN aaO:Nat)(i':Int)(aaP:List PV):St:=⟨(.p (.int .i64 jo))::(.p (.int .i64 uM))::.undef::.undef::.undef::(.ptr 5 0 0)::(.slice 6 6 aaN aaO)::(.p (.int .i64 i'))::List.replicate 129 .undef,[(5,.box [.p (.nil),.p (.nil),.p (.nil)]),(6,.arr true kR aaP)]⟩
theorem e3 (C:aA) (fD acts:Int):bf tab C 3 [.p (.int .i64 fD),.p (.int .i64 acts)] [] =
 bif (eY fD (58:Int)) then
  (C 8 [] []).bind fun r1 =>
  some ([.p (.bool ((r1.1.headD .undef).pv.toBool))],[])
 else
  bif (AU fD (66:Int)) then
   (C 8 [] []).bind fun r2 =>
   some ([.p (.bool ((r2.1.headD .undef).pv.toBool))],[])
  else
   bif (eY acts (58:Int)) then
    (C 8 [] []).bind fun r3 =>
    some ([.p (.bool ((r3.1.headD .undef).pv.toBool))],[])
   else
    bif (AU acts (66:Int)) then
     (C 8 [] []).bind fun r4 =>
     some ([.p (.bool ((r4.1.headD .undef).pv.toBool))],[])
    else
     L tab C 3 [] [.lp [1,1,1,1,0,1,0]] (Ut fD acts 0 0 0 []):=by kernel_rfl
theorem e4 (C:aA) (p_0 p_1 iE:List PV)(acts t:Int)(name:ByteArray):bf tab C 4 [.p (.agg [.list false [.str] p_0,.list true bZ p_1,.list true dD iE]),.p (.int .i64 acts),.p (.int .i64 t),.p (.str name)] [] =
 (C 11 [.p (.agg [.list false [.str] p_0,.list true bZ p_1,.list true dD iE]),.p (.int .i64 6),.p (.int .i64 5)] []).bind fun r1 =>
 bif (!(r1.1.headD .undef).pv.toBool) then
  (C 8 [] []).bind fun r2 =>
  some ([.p (.bool ((r2.1.headD .undef).pv.toBool))],[])
 else
  bif (AU ((name.size:Nat):Int) (60:Int)) then
   (C 8 [] []).bind fun r3 =>
   some ([.p (.bool ((r3.1.headD .undef).pv.toBool))],[])
  else
   (C 12 [.p (.agg [.list false [.str] p_0,.list true bZ p_1,.list true dD iE]),.p (.int .i64 acts)] []).bind fun r4 =>
   (C 13 [.p (.agg [.list false [.str] p_0,.list true bZ p_1,.list true dD iE]),.p (.int .i64 t)] []).bind fun r5 =>
   (C 14 [.p (.agg [.list false [.str] p_0,.list true bZ p_1,.list true dD iE]),.p (.str name)] []).bind fun r6 =>
   (C 15 [.p (.agg [.list false [.str] p_0,.list true bZ p_1,.list true dD iE])] []).bind fun r7 =>
   bif (!(r7.1.headD .undef).pv.toBool) then
    bif (((((r4.1.headD .undef).pv.toList).length:Nat):Int)==(0:Int)) then
     bif ((r4.1.tail.headD .undef).pv.toInt==(2:Int)) then
      bif ((r5.1.headD .undef).pv.toInt==(0:Int)) then
       bif ((r5.1.tail.headD .undef).pv.toInt==(0:Int)) then
        bif ((r5.1.tail.tail.headD .undef).pv.toInt==(2:Int)) then
         bif ((r6.1.headD .undef).pv.toInt==(0:Int)) then
          bif ((r6.1.tail.headD .undef).pv.toInt==(2:Int)) then
           (C 8 [] []).bind fun r8 =>
           some ([.p (.bool ((r8.1.headD .undef).pv.toBool))],[])
          else
           some ([.p (.bool false)],[])
         else
          some ([.p (.bool false)],[])
        else
         some ([.p (.bool false)],[])
       else
        some ([.p (.bool false)],[])
      else
       some ([.p (.bool false)],[])
     else
      some ([.p (.bool false)],[])
    else
     some ([.p (.bool false)],[])
   else
    bif (eY acts (0:Int)) then
     bif (((((r4.1.headD .undef).pv.toList).length:Nat):Int) != (0:Int)) then
      some ([.p (.bool false)],[])
     else
      bif ((r4.1.tail.headD .undef).pv.toInt != (3:Int)) then
       some ([.p (.bool false)],[])
      else
       (C 18 [.p (.agg [.list false [.str] p_0,.list true bZ p_1,.list true dD iE]),.p (.int .i64 t)] []).bind fun r9 =>
       bif ((r5.1.headD .undef).pv.toInt != (r9.1.headD .undef).pv.toInt) then
        some ([.p (.bool false)],[])
       else
        bif ((r5.1.tail.headD .undef).pv.toInt != (r9.1.tail.headD .undef).pv.toInt) then
         some ([.p (.bool false)],[])
        else
         bif ((r5.1.tail.tail.headD .undef).pv.toInt != (r9.1.tail.tail.headD .undef).pv.toInt) then
          some ([.p (.bool false)],[])
         else
          (C 19 [.p (.agg [.list false [.str] p_0,.list true bZ p_1,.list true dD iE]),.p (.str name)] []).bind fun r10 =>
          bif (eY ((r10.1.headD .undef).pv.toInt) (0:Int)) then
           bif ((r6.1.headD .undef).pv.toInt==(0:Int)) then
            bif ((r6.1.tail.headD .undef).pv.toInt==(9:Int)) then
             (C 8 [] []).bind fun r11 =>
             some ([.p (.bool ((r11.1.headD .undef).pv.toBool))],[])
            else
             some ([.p (.bool false)],[])
           else
            some ([.p (.bool false)],[])
          else
           (C 19 [.p (.agg [.list false [.str] p_0,.list true bZ p_1,.list true dD iE]),.p (.str name)] []).bind fun r12 =>
           bif ((r6.1.headD .undef).pv.toInt==(r12.1.headD .undef).pv.toInt) then
            bif ((r6.1.tail.headD .undef).pv.toInt==(0:Int)) then
             (C 8 [] []).bind fun r13 =>
             some ([.p (.bool ((r13.1.headD .undef).pv.toBool))],[])
            else
             some ([.p (.bool false)],[])
           else
            some ([.p (.bool false)],[])
    else
     bif (AU acts ((iE.length:Nat):Int)) then
      bif (((((r4.1.headD .undef).pv.toList).length:Nat):Int) != (0:Int)) then
       some ([.p (.bool false)],[])
      else
       bif ((r4.1.tail.headD .undef).pv.toInt != (3:Int)) then
        some ([.p (.bool false)],[])
       else
        (C 18 [.p (.agg [.list false [.str] p_0,.list true bZ p_1,.list true dD iE]),.p (.int .i64 t)] []).bind fun Xg =>
        bif ((r5.1.headD .undef).pv.toInt != (Xg.1.headD .undef).pv.toInt) then
         some ([.p (.bool false)],[])
        else
         bif ((r5.1.tail.headD .undef).pv.toInt != (Xg.1.tail.headD .undef).pv.toInt) then
          some ([.p (.bool false)],[])
         else
          bif ((r5.1.tail.tail.headD .undef).pv.toInt != (Xg.1.tail.tail.headD .undef).pv.toInt) then
           some ([.p (.bool false)],[])
          else
           (C 19 [.p (.agg [.list false [.str] p_0,.list true bZ p_1,.list true dD iE]),.p (.str name)] []).bind fun r15 =>
           bif (eY ((r15.1.headD .undef).pv.toInt) (0:Int)) then
            bif ((r6.1.headD .undef).pv.toInt==(0:Int)) then
             bif ((r6.1.tail.headD .undef).pv.toInt==(9:Int)) then
              (C 8 [] []).bind fun r16 =>
              some ([.p (.bool ((r16.1.headD .undef).pv.toBool))],[])
             else
              some ([.p (.bool false)],[])
            else
             some ([.p (.bool false)],[])
           else
            (C 19 [.p (.agg [.list false [.str] p_0,.list true bZ p_1,.list true dD iE]),.p (.str name)] []).bind fun r17 =>
            bif ((r6.1.headD .undef).pv.toInt==(r17.1.headD .undef).pv.toInt) then
             bif ((r6.1.tail.headD .undef).pv.toInt==(0:Int)) then
              (C 8 [] []).bind fun r18 =>
              some ([.p (.bool ((r18.1.headD .undef).pv.toBool))],[])
             else
              some ([.p (.bool false)],[])
            else
             some ([.p (.bool false)],[])
     else
      bif ((r4.1.tail.headD .undef).pv.toInt != (0:Int)) then
       some ([.p (.bool false)],[])
      else
       (C 17 [.p (.agg [.list false [.str] p_0,.list true bZ p_1,.list true dD iE]),.p (.int .i64 acts)] []).bind fun r19 =>
       (C 16 [.p (.list true bZ ((r4.1.headD .undef).pv.toList)),.p (.list true bZ ((((r19.1.headD .undef).ak).drop 0).take ((r19.1.headD .undef).ak.length)))] []).bind fun r20 =>
       bif (!(r20.1.headD .undef).pv.toBool) then
        some ([.p (.bool false)],[])
       else
        (C 18 [.p (.agg [.list false [.str] p_0,.list true bZ p_1,.list true dD iE]),.p (.int .i64 t)] []).bind fun r21 =>
        bif ((r5.1.headD .undef).pv.toInt != (r21.1.headD .undef).pv.toInt) then
         some ([.p (.bool false)],[])
        else
         bif ((r5.1.tail.headD .undef).pv.toInt != (r21.1.tail.headD .undef).pv.toInt) then
          some ([.p (.bool false)],[])
         else
          bif ((r5.1.tail.tail.headD .undef).pv.toInt != (r21.1.tail.tail.headD .undef).pv.toInt) then
           some ([.p (.bool false)],[])
          else
           (C 19 [.p (.agg [.list false [.str] p_0,.list true bZ p_1,.list true dD iE]),.p (.str name)] []).bind fun r22 =>
           bif (eY ((r22.1.headD .undef).pv.toInt) (0:Int)) then
            bif ((r6.1.headD .undef).pv.toInt==(0:Int)) then
             bif ((r6.1.tail.headD .undef).pv.toInt==(9:Int)) then
              (C 8 [] []).bind fun r23 =>
              some ([.p (.bool ((r23.1.headD .undef).pv.toBool))],[])
             else
              some ([.p (.bool false)],[])
            else
             some ([.p (.bool false)],[])
           else
            (C 19 [.p (.agg [.list false [.str] p_0,.list true bZ p_1,.list true dD iE]),.p (.str name)] []).bind fun r24 =>
            bif ((r6.1.headD .undef).pv.toInt==(r24.1.headD .undef).pv.toInt) then
             bif ((r6.1.tail.headD .undef).pv.toInt==(0:Int)) then
              (C 8 [] []).bind fun r25 =>
              some ([.p (.bool ((r25.1.headD .undef).pv.toBool))],[])
             else
              some ([.p (.bool false)],[])
            else
             some ([.p (.bool false)],[]):=by kernel_rfl
theorem e5 (C:aA) (p_0 p_1 iE:List PV)(a_0:ByteArray)(a_1:Int)(a_2:List PV):bf tab C 5 [.p (.agg [.list false [.str] p_0,.list true bZ p_1,.list true dD iE]),.p (.agg [.str a_0,.int .i64 a_1,.list true kR a_2])] [] =
 (C 11 [.p (.agg [.list false [.str] p_0,.list true bZ p_1,.list true dD iE]),.p (.int .i64 6),.p (.int .i64 5)] []).bind fun r1 =>
 bif (!(r1.1.headD .undef).pv.toBool) then
  (C 8 [] []).bind fun r2 =>
  some ([.p (.bool ((r2.1.headD .undef).pv.toBool))],[])
 else
  bif (AU ((a_2.length:Nat):Int) (8:Int)) then
   (C 8 [] []).bind fun r3 =>
   some ([.p (.bool ((r3.1.headD .undef).pv.toBool))],[])
  else
   bif (AU ((a_0.size:Nat):Int) (60:Int)) then
    (C 8 [] []).bind fun r4 =>
    some ([.p (.bool ((r4.1.headD .undef).pv.toBool))],[])
   else
    bif (Ny p_0.length 2147483648) then bif (Ny p_1.length 2147483648) then bif (Ny iE.length 2147483648) then(C 20 [.p (.agg [.list false [.str] p_0,.list true bZ p_1,.list true dD iE]),.p (.agg [.str a_0,.int .i64 a_1,.list true kR a_2])] []).bind fun r5 =>
    (C 21 [.p (.agg [.list false [.str] p_0,.list true bZ p_1,.list true dD iE]),.p (.agg [.list false [.str] ((p_0.drop 0).take p_0.length),.list true bZ ((p_1.drop 0).take p_1.length),.list true dD ((iE.drop 0).take iE.length)])] []).bind fun r6 =>
    bif (!(r6.1.headD .undef).pv.toBool) then
     some ([.p (.bool false)],[])
    else
     (C 15 [.p (.agg [.list false [.str] p_0,.list true bZ p_1,.list true dD iE])] []).bind fun r7 =>
     bif (!(r7.1.headD .undef).pv.toBool) then
      (C 21 [.p (.agg [.list false [.str] (((r5.1.headD .undef).pv.cell 0).toList),.list true bZ (((r5.1.headD .undef).pv.cell 1).toList),.list true dD (((r5.1.headD .undef).pv.cell 2).toList)]),.p (.agg [.nil,.nil,.nil])] []).bind fun r8 =>
      bif (r8.1.headD .undef).pv.toBool then
       bif ((r5.1.tail.headD .undef).pv.toInt==(2:Int)) then
        (C 8 [] []).bind fun r9 =>
        some ([.p (.bool ((r9.1.headD .undef).pv.toBool))],[])
       else
        some ([.p (.bool false)],[])
      else
       some ([.p (.bool false)],[])
     else
      (C 22 [.p (.agg [.list false [.str] p_0,.list true bZ p_1,.list true dD iE]),.p (.agg [.str a_0,.int .i64 a_1,.list true kR a_2])] []).bind fun r10 =>
      (C 15 [.p (.agg [.list false [.str] (((r10.1.headD .undef).pv.cell 0).toList),.list true bZ (((r10.1.headD .undef).pv.cell 1).toList),.list true dD (((r10.1.headD .undef).pv.cell 2).toList)])] []).bind fun r11 =>
      bif (!(r11.1.headD .undef).pv.toBool) then
       (C 21 [.p (.agg [.list false [.str] (((r5.1.headD .undef).pv.cell 0).toList),.list true bZ (((r5.1.headD .undef).pv.cell 1).toList),.list true dD (((r5.1.headD .undef).pv.cell 2).toList)]),.p (.agg [.nil,.nil,.nil])] []).bind fun r12 =>
       bif (r12.1.headD .undef).pv.toBool then
        bif ((r5.1.tail.headD .undef).pv.toInt==(10:Int)) then
         (C 8 [] []).bind fun r13 =>
         some ([.p (.bool ((r13.1.headD .undef).pv.toBool))],[])
        else
         some ([.p (.bool false)],[])
       else
        some ([.p (.bool false)],[])
      else
       bif ((r5.1.tail.headD .undef).pv.toInt==(0:Int)) then
        (C 22 [.p (.agg [.list false [.str] p_0,.list true bZ p_1,.list true dD iE]),.p (.agg [.str a_0,.int .i64 a_1,.list true kR a_2])] []).bind fun Xg =>
        (C 21 [.p (.agg [.list false [.str] (((r5.1.headD .undef).pv.cell 0).toList),.list true bZ (((r5.1.headD .undef).pv.cell 1).toList),.list true dD (((r5.1.headD .undef).pv.cell 2).toList)]),.p (.agg [.list false [.str] (((Xg.1.headD .undef).pv.cell 0).toList),.list true bZ (((Xg.1.headD .undef).pv.cell 1).toList),.list true dD (((Xg.1.headD .undef).pv.cell 2).toList)])] []).bind fun r15 =>
        bif (r15.1.headD .undef).pv.toBool then
         (C 8 [] []).bind fun r16 =>
         some ([.p (.bool ((r16.1.headD .undef).pv.toBool))],[])
        else
         some ([.p (.bool false)],[])
       else
        some ([.p (.bool false)],[]) else none else none else none:=by kernel_rfl
theorem e6 (C:aA) (p_0 p_1 iE:List PV)(fD:Int):bf tab C 6 [.p (.agg [.list false [.str] p_0,.list true bZ p_1,.list true dD iE]),.p (.int .i64 fD)] [] =
 (C 11 [.p (.agg [.list false [.str] p_0,.list true bZ p_1,.list true dD iE]),.p (.int .i64 6),.p (.int .i64 5)] []).bind fun r1 =>
 bif (!(r1.1.headD .undef).pv.toBool) then
  (C 8 [] []).bind fun r2 =>
  some ([.p (.bool ((r2.1.headD .undef).pv.toBool))],[])
 else
  (C 23 [.p (.agg [.list false [.str] p_0,.list true bZ p_1,.list true dD iE])] []).bind fun r3 =>
  (C 24 [.p (.agg [.list false [.str] p_0,.list true bZ p_1,.list true dD iE]),.p (.int .i64 fD)] []).bind fun r4 =>
  (C 25 [.p (.agg [.list false [.str] p_0,.list true bZ p_1,.list true dD iE])] []).bind fun r5 =>
  (C 15 [.p (.agg [.list false [.str] p_0,.list true bZ p_1,.list true dD iE])] []).bind fun r6 =>
  bif (!(r6.1.headD .undef).pv.toBool) then
   bif ((r3.1.headD .undef).pv.toInt==(0:Int)) then
    bif ((r3.1.tail.headD .undef).pv.toInt==(2:Int)) then
     bif (((((r4.1.headD .undef).pv.toList).length:Nat):Int)==(0:Int)) then
      bif ((r4.1.tail.headD .undef).pv.toInt==(2:Int)) then
       bif ((((r5.1.headD .undef).ak.length:Nat):Int)==(0:Int)) then
        bif ((r5.1.tail.headD .undef).pv.toInt==(2:Int)) then
         (C 8 [] []).bind fun r7 =>
         some ([.p (.bool ((r7.1.headD .undef).pv.toBool))],[])
        else
         some ([.p (.bool false)],[])
       else
        some ([.p (.bool false)],[])
      else
       some ([.p (.bool false)],[])
     else
      some ([.p (.bool false)],[])
    else
     some ([.p (.bool false)],[])
   else
    some ([.p (.bool false)],[])
  else
   (C 26 [.p (.agg [.list false [.str] p_0,.list true bZ p_1,.list true dD iE])] []).bind fun r8 =>
   bif ((r3.1.headD .undef).pv.toInt != (r8.1.headD .undef).pv.toInt) then
    some ([.p (.bool false)],[])
   else
    bif ((r3.1.tail.headD .undef).pv.toInt != (0:Int)) then
     some ([.p (.bool false)],[])
    else
     bif (eY fD (0:Int)) then
      bif (((((r4.1.headD .undef).pv.toList).length:Nat):Int) != (0:Int)) then
       some ([.p (.bool false)],[])
      else
       bif ((r4.1.tail.headD .undef).pv.toInt != (3:Int)) then
        some ([.p (.bool false)],[])
       else
        bif (((iE.length:Nat):Int)==(0:Int)) then
         bif ((((r5.1.headD .undef).ak.length:Nat):Int)==(0:Int)) then
          bif ((r5.1.tail.headD .undef).pv.toInt==(9:Int)) then
           (C 8 [] []).bind fun r9 =>
           some ([.p (.bool ((r9.1.headD .undef).pv.toBool))],[])
          else
           some ([.p (.bool false)],[])
         else
          some ([.p (.bool false)],[])
        else
         bif ((r5.1.tail.headD .undef).pv.toInt==(0:Int)) then
          (C 30 [.p (.agg [.list false [.str] p_0,.list true bZ p_1,.list true dD iE])] []).bind fun r10 =>
          (C 29 [.p (.list false [.slice true iy] ((((r5.1.headD .undef).ak).drop 0).take ((r5.1.headD .undef).ak.length))),.p (.list false [.slice true iy] ((((r10.1.headD .undef).ak).drop 0).take ((r10.1.headD .undef).ak.length)))] []).bind fun r11 =>
          bif (r11.1.headD .undef).pv.toBool then
           (C 8 [] []).bind fun r12 =>
           some ([.p (.bool ((r12.1.headD .undef).pv.toBool))],[])
          else
           some ([.p (.bool false)],[])
         else
          some ([.p (.bool false)],[])
     else
      bif (Nz fD ((p_0.length:Nat):Int)) then
       bif (((((r4.1.headD .undef).pv.toList).length:Nat):Int) != (0:Int)) then
        some ([.p (.bool false)],[])
       else
        bif ((r4.1.tail.headD .undef).pv.toInt != (3:Int)) then
         some ([.p (.bool false)],[])
        else
         bif (((iE.length:Nat):Int)==(0:Int)) then
          bif ((((r5.1.headD .undef).ak.length:Nat):Int)==(0:Int)) then
           bif ((r5.1.tail.headD .undef).pv.toInt==(9:Int)) then
            (C 8 [] []).bind fun r13 =>
            some ([.p (.bool ((r13.1.headD .undef).pv.toBool))],[])
           else
            some ([.p (.bool false)],[])
          else
           some ([.p (.bool false)],[])
         else
          bif ((r5.1.tail.headD .undef).pv.toInt==(0:Int)) then
           (C 30 [.p (.agg [.list false [.str] p_0,.list true bZ p_1,.list true dD iE])] []).bind fun Xg =>
           (C 29 [.p (.list false [.slice true iy] ((((r5.1.headD .undef).ak).drop 0).take ((r5.1.headD .undef).ak.length))),.p (.list false [.slice true iy] ((((Xg.1.headD .undef).ak).drop 0).take ((Xg.1.headD .undef).ak.length)))] []).bind fun r15 =>
           bif (r15.1.headD .undef).pv.toBool then
            (C 8 [] []).bind fun r16 =>
            some ([.p (.bool ((r16.1.headD .undef).pv.toBool))],[])
           else
            some ([.p (.bool false)],[])
          else
           some ([.p (.bool false)],[])
      else
       bif (((iE.length:Nat):Int)==(0:Int)) then
        bif (((((r4.1.headD .undef).pv.toList).length:Nat):Int) != (0:Int)) then
         some ([.p (.bool false)],[])
        else
         bif ((r4.1.tail.headD .undef).pv.toInt != (9:Int)) then
          some ([.p (.bool false)],[])
         else
          bif (((iE.length:Nat):Int)==(0:Int)) then
           bif ((((r5.1.headD .undef).ak.length:Nat):Int)==(0:Int)) then
            bif ((r5.1.tail.headD .undef).pv.toInt==(9:Int)) then
             (C 8 [] []).bind fun r17 =>
             some ([.p (.bool ((r17.1.headD .undef).pv.toBool))],[])
            else
             some ([.p (.bool false)],[])
           else
            some ([.p (.bool false)],[])
          else
           bif ((r5.1.tail.headD .undef).pv.toInt==(0:Int)) then
            (C 30 [.p (.agg [.list false [.str] p_0,.list true bZ p_1,.list true dD iE])] []).bind fun r18 =>
            (C 29 [.p (.list false [.slice true iy] ((((r5.1.headD .undef).ak).drop 0).take ((r5.1.headD .undef).ak.length))),.p (.list false [.slice true iy] ((((r18.1.headD .undef).ak).drop 0).take ((r18.1.headD .undef).ak.length)))] []).bind fun r19 =>
            bif (r19.1.headD .undef).pv.toBool then
             (C 8 [] []).bind fun r20 =>
             some ([.p (.bool ((r20.1.headD .undef).pv.toBool))],[])
            else
             some ([.p (.bool false)],[])
           else
            some ([.p (.bool false)],[])
       else
        bif ((r4.1.tail.headD .undef).pv.toInt != (0:Int)) then
         some ([.p (.bool false)],[])
        else
         (C 28 [.p (.agg [.list false [.str] p_0,.list true bZ p_1,.list true dD iE]),.p (.int .i64 fD)] []).bind fun r21 =>
         (C 27 [.p (.list true iy ((r4.1.headD .undef).pv.toList)),.p (.list true iy ((((r21.1.headD .undef).ak).drop 0).take ((r21.1.headD .undef).ak.length)))] []).bind fun r22 =>
         bif (!(r22.1.headD .undef).pv.toBool) then
          some ([.p (.bool false)],[])
         else
          bif (((iE.length:Nat):Int)==(0:Int)) then
           bif ((((r5.1.headD .undef).ak.length:Nat):Int)==(0:Int)) then
            bif ((r5.1.tail.headD .undef).pv.toInt==(9:Int)) then
             (C 8 [] []).bind fun r23 =>
             some ([.p (.bool ((r23.1.headD .undef).pv.toBool))],[])
            else
             some ([.p (.bool false)],[])
           else
            some ([.p (.bool false)],[])
          else
           bif ((r5.1.tail.headD .undef).pv.toInt==(0:Int)) then
            (C 30 [.p (.agg [.list false [.str] p_0,.list true bZ p_1,.list true dD iE])] []).bind fun r24 =>
            (C 29 [.p (.list false [.slice true iy] ((((r5.1.headD .undef).ak).drop 0).take ((r5.1.headD .undef).ak.length))),.p (.list false [.slice true iy] ((((r24.1.headD .undef).ak).drop 0).take ((r24.1.headD .undef).ak.length)))] []).bind fun r25 =>
            bif (r25.1.headD .undef).pv.toBool then
             (C 8 [] []).bind fun r26 =>
             some ([.p (.bool ((r26.1.headD .undef).pv.toBool))],[])
            else
             some ([.p (.bool false)],[])
           else
            some ([.p (.bool false)],[]):=by kernel_rfl
theorem e8 (C:aA) :bf tab C 8 [] [] =
 (C 33 [] []).bind fun r1 =>
 (C 23 [.p (.agg [.list false [.str] (((r1.1.headD .undef).pv.cell 0).toList),.list true bZ (((r1.1.headD .undef).pv.cell 1).toList),.list true dD (((r1.1.headD .undef).pv.cell 2).toList)])] []).bind fun r2 =>
 (C 24 [.p (.agg [.list false [.str] (((r1.1.headD .undef).pv.cell 0).toList),.list true bZ (((r1.1.headD .undef).pv.cell 1).toList),.list true dD (((r1.1.headD .undef).pv.cell 2).toList)]),.p (.int .i64 0)] []).bind fun r3 =>
 (C 24 [.p (.agg [.list false [.str] (((r1.1.headD .undef).pv.cell 0).toList),.list true bZ (((r1.1.headD .undef).pv.cell 1).toList),.list true dD (((r1.1.headD .undef).pv.cell 2).toList)]),.p (.int .i64 1)] []).bind fun r4 =>
 bif ((r2.1.headD .undef).pv.toInt != (5000:Int)) then
  some ([.p (.bool false)],[])
 else
  bif ((r2.1.tail.headD .undef).pv.toInt != (0:Int)) then
   some ([.p (.bool false)],[])
  else
   bif ((r3.1.tail.headD .undef).pv.toInt != (0:Int)) then
    some ([.p (.bool false)],[])
   else
    bif ((r4.1.tail.headD .undef).pv.toInt != (0:Int)) then
     some ([.p (.bool false)],[])
    else
     bif (((((r3.1.headD .undef).pv.toList).length:Nat):Int) != (2:Int)) then
      some ([.p (.bool false)],[])
     else
      bif (eY (0:Int) ((((r3.1.headD .undef).pv.toList).length:Nat):Int)) then bif (((((r3.1.headD .undef).pv.toList).getD 0 .nil).cell 1).toInt != (4000:Int)) then
       some ([.p (.bool false)],[])
      else
       bif (eY (1:Int) ((((r3.1.headD .undef).pv.toList).length:Nat):Int)) then bif (((((r3.1.headD .undef).pv.toList).getD 1 .nil).cell 1).toInt != (5000:Int)) then
        some ([.p (.bool false)],[])
       else
        bif (((((r4.1.headD .undef).pv.toList).length:Nat):Int) != (2:Int)) then
         some ([.p (.bool false)],[])
        else
         bif (eY (0:Int) ((((r4.1.headD .undef).pv.toList).length:Nat):Int)) then bif (((((r4.1.headD .undef).pv.toList).getD 0 .nil).cell 1).toInt != (1000:Int)) then
          some ([.p (.bool false)],[])
         else
          bif (eY (1:Int) ((((r4.1.headD .undef).pv.toList).length:Nat):Int)) then bif (((((r4.1.headD .undef).pv.toList).getD 1 .nil).cell 1).toInt != (5000:Int)) then
           some ([.p (.bool false)],[])
          else
           (C 12 [.p (.agg [.list false [.str] (((r1.1.headD .undef).pv.cell 0).toList),.list true bZ (((r1.1.headD .undef).pv.cell 1).toList),.list true dD (((r1.1.headD .undef).pv.cell 2).toList)]),.p (.int .i64 0)] []).bind fun r5 =>
           (C 12 [.p (.agg [.list false [.str] (((r1.1.headD .undef).pv.cell 0).toList),.list true bZ (((r1.1.headD .undef).pv.cell 1).toList),.list true dD (((r1.1.headD .undef).pv.cell 2).toList)]),.p (.int .i64 1)] []).bind fun r6 =>
           (C 13 [.p (.agg [.list false [.str] (((r1.1.headD .undef).pv.cell 0).toList),.list true bZ (((r1.1.headD .undef).pv.cell 1).toList),.list true dD (((r1.1.headD .undef).pv.cell 2).toList)]),.p (.int .i64 5000)] []).bind fun r7 =>
           (C 13 [.p (.agg [.list false [.str] (((r1.1.headD .undef).pv.cell 0).toList),.list true bZ (((r1.1.headD .undef).pv.cell 1).toList),.list true dD (((r1.1.headD .undef).pv.cell 2).toList)]),.p (.int .i64 5001)] []).bind fun r8 =>
           (C 14 [.p (.agg [.list false [.str] (((r1.1.headD .undef).pv.cell 0).toList),.list true bZ (((r1.1.headD .undef).pv.cell 1).toList),.list true dD (((r1.1.headD .undef).pv.cell 2).toList)]),.p (.str ⟨#[98]⟩)] []).bind fun r9 =>
           bif ((r5.1.tail.headD .undef).pv.toInt != (0:Int)) then
            some ([.p (.bool false)],[])
           else
            bif ((r6.1.tail.headD .undef).pv.toInt != (0:Int)) then
             some ([.p (.bool false)],[])
            else
             bif ((r7.1.tail.tail.headD .undef).pv.toInt != (0:Int)) then
              some ([.p (.bool false)],[])
             else
              bif ((r8.1.tail.tail.headD .undef).pv.toInt != (3:Int)) then
               some ([.p (.bool false)],[])
              else
               bif ((r9.1.headD .undef).pv.toInt != (1:Int)) then
                some ([.p (.bool false)],[])
               else
                bif ((r9.1.tail.headD .undef).pv.toInt != (0:Int)) then
                 some ([.p (.bool false)],[])
                else
                 bif ((r7.1.headD .undef).pv.toInt != (0:Int)) then
                  some ([.p (.bool false)],[])
                 else
                  bif ((r7.1.tail.headD .undef).pv.toInt != (0:Int)) then
                   some ([.p (.bool false)],[])
                  else
                   (C 16 [.p (.list true bZ ((r5.1.headD .undef).pv.toList)),.p (.list true bZ (((r1.1.headD .undef).pv.cell 1).toList))] []).bind fun r10 =>
                   bif (!(r10.1.headD .undef).pv.toBool) then
                    some ([.p (.bool false)],[])
                   else
                    (C 9 [.p (.int .i64 0),.p (.int .i64 0),.p (.int .i64 300)] []).bind fun r11 =>
                    (C 9 [.p (.int .i64 500),.p (.int .i64 0),.p (.int .i64 300)] []).bind fun r12 =>
                    (C 16 [.p (.list true bZ ((r6.1.headD .undef).pv.toList)),.p (.list true bZ [.agg [.int .i64 (((r11.1.headD .undef).pv.cell 0).toInt),.int .i64 (((r11.1.headD .undef).pv.cell 1).toInt),.int .i64 (((r11.1.headD .undef).pv.cell 2).toInt)],.agg [.int .i64 (((r12.1.headD .undef).pv.cell 0).toInt),.int .i64 (((r12.1.headD .undef).pv.cell 1).toInt),.int .i64 (((r12.1.headD .undef).pv.cell 2).toInt)]])] []).bind fun r13 =>
                    bif (!(r13.1.headD .undef).pv.toBool) then
                     some ([.p (.bool false)],[])
                    else
                     (C 34 [.p (.agg [.list false [.str] (((r1.1.headD .undef).pv.cell 0).toList),.list true bZ (((r1.1.headD .undef).pv.cell 1).toList),.list true dD (((r1.1.headD .undef).pv.cell 2).toList)])] []).bind fun Xg =>
                     (C 9 [.p (.int .i64 0),.p (.int .i64 0),.p (.int .i64 0)] []).bind fun r15 =>
                     (C 9 [.p (.int .i64 500),.p (.int .i64 0),.p (.int .i64 300)] []).bind fun r16 =>
                     (C 20 [.p (.agg [.list false [.str] (((r1.1.headD .undef).pv.cell 0).toList),.list true bZ (((r1.1.headD .undef).pv.cell 1).toList),.list true dD (((r1.1.headD .undef).pv.cell 2).toList)]),.p (.agg [.str ⟨#[100,111,119,110]⟩,.int .i64 1000,.list true kR [.agg [.int .i64 (((r15.1.headD .undef).pv.cell 0).toInt),.int .i64 (((r15.1.headD .undef).pv.cell 1).toInt),.int .i64 (((r15.1.headD .undef).pv.cell 2).toInt),.int .i64 0,.int .i64 2000,.int .i64 0],.agg [.int .i64 (((r16.1.headD .undef).pv.cell 0).toInt),.int .i64 (((r16.1.headD .undef).pv.cell 1).toInt),.int .i64 (((r16.1.headD .undef).pv.cell 2).toInt),.int .i64 0,.int .i64 0,.int .i64 0]]])] []).bind fun r17 =>
                     (C 35 [] []).bind fun r18 =>
                     bif (((Xg.1.headD .undef).pv.toStr).toList==((r18.1.headD .undef).pv.toStr).toList) then
                      bif ((Xg.1.tail.headD .undef).pv.toInt==(0:Int)) then
                       some ([.p (.bool ((r17.1.tail.headD .undef).pv.toInt==(10:Int)))],[])
                      else
                       some ([.p (.bool false)],[])
                     else
                      some ([.p (.bool false)],[]) else none else none else none else none:=by kernel_rfl
theorem e9 (C:aA) (x y z:Int):bf tab C 9 [.p (.int .i64 x),.p (.int .i64 y),.p (.int .i64 z)] [] =
 some ([.p (.agg [.int .i64 x,.int .i64 y,.int .i64 z])],[]):=by kernel_rfl
def oK (at_':Int)(yC:List PV)(G7 uN:Int)(bQ aH bG:List PV)(Af:Bool)(uO:List PV)(gq iI:Nat):St:=⟨.undef::(.ptr 1 0 0)::(.ptr 2 0 0)::(.p (.int .i64 at_'))::(.ptr 4 0 0)::Uq 19 ((.p (.list true dD yC))::(.p (.int .i64 G7))::(.p (.int .i64 uN))::List.replicate 59 .undef),[(1,.box [.p (.list false [.str] bQ),.p (.list true bZ aH),.p (.list true dD bG)]),(2,.box [.p (.bool Af)]),(22,.arr false [.int .i64] uO),(4,.box [.slice 22 1 gq iI])]⟩
def fC (at_':Int)(yC:List PV)(G7 uN:Int)(ug uh uj:List PV)(um uo:Int)(bQ aH bG:List PV)(Af:Bool)(uO:List PV)(gq iI:Nat)(J6:ByteArray)(G8:Int)(AB:List PV)(AX:Int):St:=⟨.undef::(.ptr 1 0 0)::(.ptr 2 0 0)::(.p (.int .i64 at_'))::(.ptr 4 0 0)::.undef::(.ptr 6 0 0)::(.ptr 7 0 0)::Uq 16 ((.p (.list true dD yC))::(.p (.int .i64 G7))::(.p (.int .i64 uN))::Uq 32 ((.p (.fn 59 [.ref [.list false [.str] ug,.list true bZ uh,.list true dD uj],.ref [.int .i64 um],.ref [.int .i64 uo]]))::List.replicate 26 .undef)),[(1,.box [.p (.list false [.str] bQ),.p (.list true bZ aH),.p (.list true dD bG)]),(2,.box [.p (.bool Af)]),(22,.arr false [.int .i64] uO),(4,.box [.slice 22 1 gq iI]),(6,.box [.p (.str J6),.p (.int .i64 G8),.p (.list true kR AB)]),(7,.box [.p (.int .i64 AX)])]⟩
theorem e10 (C:aA) (p_0 p_1 iE:List PV):bf tab C 10 [.p (.agg [.list false [.str] p_0,.list true bZ p_1,.list true dD iE])] [] =
 (C 36 [.p (.agg [.list false [.str] p_0,.list true bZ p_1,.list true dD iE])] []).bind fun r1 =>
 bif (!(r1.1.headD .undef).pv.toBool) then
  some ([.p (.bool false)],[])
 else
  bif (AU ((iE.length:Nat):Int) (60:Int)) then
   some ([.p (.bool false)],[])
  else
   bif ((leI (0:Int) ((p_0.length:Nat):Int))&&((leI ((p_0.length:Nat):Int) ((p_0.length:Nat):Int))&&(leI ((p_0.length:Nat):Int) (2147483648:Int)))) then L tab C 10 [] [.lp [1,1,1,1,0,1,0]] (oK 0 iE ((iE.length:Nat):Int) 0 p_0 p_1 iE false (List.replicate (((p_0.length:Nat):Int).toNat) (PV.int .i64 0)) 0 (((p_0.length:Nat):Int).toNat)) else none:=by kernel_rfl
theorem Iu (C:aA) (at_':Int)(yC:List PV)(G7 uN:Int)(bQ aH bG:List PV)(Af:Bool)(uO:List PV)(gq iI:Nat):R tab C 10 [] [.lp [1,1,1,1,0,1,0]] (oK at_' yC G7 uN bQ aH bG Af uO gq iI) =
 bif (eY uN G7) then
  bif ((leI (0:Int) uN)&&(eY uN ((yC.length:Nat):Int))) then(C 37 [.p (.str (((yC.getD uN.toNat .nil).cell 0).toStr))] []).bind fun r1 =>
  bif (!(r1.1.headD .undef).pv.toBool) then
   some ([.p (.bool false)],[])
  else
   bif (eY (((yC.getD uN.toNat .nil).cell 1).toInt) (1:Int)) then
    some ([.p (.bool false)],[])
   else
    bif (AU (((yC.getD uN.toNat .nil).cell 1).toInt) (IntKind.i64.wrap ((3600000:Int)-at_'))) then
     some ([.p (.bool false)],[])
    else
     bif ((((((yC.getD uN.toNat .nil).cell 2).toList).length:Nat):Int) != ((bQ.length:Nat):Int)) then
      some ([.p (.bool false)],[])
     else
      (C 38 [.p (.agg [.list false [.str] bQ,.list true bZ aH,.list true dD bG]),.p (.int .i64 uN),.p (.int .i64 at_')] []).bind fun r2 =>
      (C 59 [.zq,.p (.ref [.list false [.str] ((((r2.1.headD .undef).pv.cap 0).lZ 0).toList),.list true bZ ((((r2.1.headD .undef).pv.cap 0).lZ 1).toList),.list true dD ((((r2.1.headD .undef).pv.cap 0).lZ 2).toList)]),.p (.ref [.int .i64 ((((r2.1.headD .undef).pv.cap 1).lZ 0).toInt)]),.p (.ref [.int .i64 ((((r2.1.headD .undef).pv.cap 2).lZ 0).toInt)])] [.log true []]).bind fun r3 =>
      L tab C 10 [] [.lp [1,1,1,1,0,1,0],.rg [1,1,0,0,1,1,1,0,1,0] [(false,[.slice true iy]),(false,[.int .i64])] (sQ r3.2)] (fC at_' yC G7 uN ((((r2.1.headD .undef).pv.cap 0).lZ 0).toList) ((((r2.1.headD .undef).pv.cap 0).lZ 1).toList) ((((r2.1.headD .undef).pv.cap 0).lZ 2).toList) ((((r2.1.headD .undef).pv.cap 1).lZ 0).toInt) ((((r2.1.headD .undef).pv.cap 2).lZ 0).toInt) bQ aH bG Af uO gq iI (((yC.getD uN.toNat .nil).cell 0).toStr) (((yC.getD uN.toNat .nil).cell 1).toInt) (((yC.getD uN.toNat .nil).cell 2).toList) 0) else none
 else
  some ([.p (.bool true)],[]):=by kernel_rfl
theorem uP (C:aA) (at_':Int)(yC:List PV)(G7 uN:Int)(ug uh uj:List PV)(um uo:Int)(bQ aH bG:List PV)(Af:Bool)(uO:List PV)(gq iI:Nat)(J6:ByteArray)(G8:Int)(AB:List PV)(AX:Int):L tab C 10 [] [.lp [1,1,1,1,0,1,0],.rg [1,1,0,0,1,1,1,0,1,0] [(false,[.slice true iy]),(false,[.int .i64])] []] (fC at_' yC G7 uN ug uh uj um uo bQ aH bG Af uO gq iI J6 G8 AB AX) =
 L tab C 10 [] [.lp [1,1,1,1,0,1,0]] (oK (IntKind.i64.wrap (at_'+G8)) yC G7 (IntKind.i64.wrap (uN+(1:Int))) bQ aH bG Af uO gq iI):=by kernel_rfl
theorem sW (C:aA) (at_':Int)(yC:List PV)(G7 uN:Int)(ug uh uj:List PV)(um uo:Int)(bQ aH bG:List PV)(Af:Bool)(uO:List PV)(gq iI:Nat)(J6:ByteArray)(G8:Int)(AB:List PV)(AX:Int)(y0:List PV)(y1:Int)(ys:List PV):L tab C 10 [] [.lp [1,1,1,1,0,1,0],.rg [1,1,0,0,1,1,1,0,1,0] [(false,[.slice true iy]),(false,[.int .i64])] (.agg [.list true iy y0,.int .i64 y1]::ys)] (fC at_' yC G7 uN ug uh uj um uo bQ aH bG Af uO gq iI J6 G8 AB AX) =
 bif ((leI (0:Int) AX)&&(eY AX (iI:Int))) then bif ((leI (0:Int) AX)&&(eY AX (iI:Int))) then bif (y1 != (0:Int)) then
  some ([.p (.bool false)],[])
 else
  bif ((leI (0:Int) AX)&&(eY AX (iI:Int))) then bif (AU ((((uO.set (gq+AX.toNat) (PV.int .i64 (IntKind.i64.wrap (((uO.getD (gq+AX.toNat) .nil).cell 0).toInt+((y0.length:Nat):Int))))).getD (gq+AX.toNat) .nil).cell 0).toInt) (256:Int)) then
   some ([.p (.bool false)],[])
  else
   L tab C 10 [] [.lp [1,1,1,1,0,1,0],.rg [1,1,0,0,1,1,1,0,1,0] [(false,[.slice true iy]),(false,[.int .i64])] ys] (fC at_' yC G7 uN ug uh uj um uo bQ aH bG Af (uO.set (gq+AX.toNat) (PV.int .i64 (IntKind.i64.wrap (((uO.getD (gq+AX.toNat) .nil).cell 0).toInt+((y0.length:Nat):Int))))) gq iI J6 G8 AB (IntKind.i64.wrap (AX+(1:Int)))) else none else none else none:=by kernel_rfl
def yD (jo i':Int)(bQ aH bG:List PV):St:=⟨.undef::(.p (.int .i64 jo))::.undef::(.ptr 3 0 0)::.undef::.undef::.undef::(.p (.int .i64 i'))::List.replicate 61 .undef,[(3,.box [.p (.list false [.str] bQ),.p (.list true bZ aH),.p (.list true dD bG)])]⟩
def uQ (jo a':Int)(bQ aH bG:List PV):St:=⟨.undef::(.p (.int .i64 jo))::.undef::(.ptr 3 0 0)::Uq 4 ((.p (.int .i64 a'))::List.replicate 60 .undef),[(3,.box [.p (.list false [.str] bQ),.p (.list true bZ aH),.p (.list true dD bG)])]⟩
theorem e11 (C:aA) (p_0 p_1 iE:List PV)(fD acts:Int):bf tab C 11 [.p (.agg [.list false [.str] p_0,.list true bZ p_1,.list true dD iE]),.p (.int .i64 fD),.p (.int .i64 acts)] [] =
 bif (AU ((p_0.length:Nat):Int) fD) then
  some ([.p (.bool false)],[])
 else
  bif (AU ((p_1.length:Nat):Int) fD) then
   some ([.p (.bool false)],[])
  else
   bif (AU ((iE.length:Nat):Int) acts) then
    some ([.p (.bool false)],[])
   else
    L tab C 11 [] [.lp [1,1,0,1,0]] (yD fD 0 p_0 p_1 iE):=by kernel_rfl
theorem Oc (C:aA) (jo i':Int)(bQ aH bG:List PV):R tab C 11 [] [.lp [1,1,0,1,0]] (yD jo i' bQ aH bG) =
 bif (eY i' ((bQ.length:Nat):Int)) then
  bif ((leI (0:Int) i')&&(eY i' ((bQ.length:Nat):Int))) then bif (AU (((((bQ.getD i'.toNat .nil).cell 0).toStr).size:Nat):Int) (60:Int)) then
   some ([.p (.bool false)],[])
  else
   L tab C 11 [] [.lp [1,1,0,1,0]] (yD jo (IntKind.i64.wrap (i'+(1:Int))) bQ aH bG) else none
 else
  L tab C 11 [] [.lp [1,1,1,0,1,0]] (uQ jo 0 bQ aH bG):=by kernel_rfl
theorem J7 (C:aA) (jo a':Int)(bQ aH bG:List PV):R tab C 11 [] [.lp [1,1,1,0,1,0]] (uQ jo a' bQ aH bG) =
 bif (eY a' ((bG.length:Nat):Int)) then
  bif ((leI (0:Int) a')&&(eY a' ((bG.length:Nat):Int))) then bif (AU (((((bG.getD a'.toNat .nil).cell 0).toStr).size:Nat):Int) (60:Int)) then
   some ([.p (.bool false)],[])
  else
   bif ((leI (0:Int) a')&&(eY a' ((bG.length:Nat):Int))) then bif (AU (((((bG.getD a'.toNat .nil).cell 2).toList).length:Nat):Int) (IntKind.i64.wrap (jo+(2:Int)))) then
    some ([.p (.bool false)],[])
   else
    L tab C 11 [] [.lp [1,1,1,0,1,0]] (uQ jo (IntKind.i64.wrap (a'+(1:Int))) bQ aH bG) else none else none
 else
  some ([.p (.bool true)],[]):=by kernel_rfl
theorem e12 (C:aA) (p_0 p_1 iE:List PV)(acts:Int):bf tab C 12 [.p (.agg [.list false [.str] p_0,.list true bZ p_1,.list true dD iE]),.p (.int .i64 acts)] [] =
 (C 10 [.p (.agg [.list false [.str] p_0,.list true bZ p_1,.list true dD iE])] []).bind fun r1 =>
 bif (!(r1.1.headD .undef).pv.toBool) then
  some ([.p (.list true bZ []),.p (.int .i64 2)],[])
 else
  bif (eY acts (0:Int)) then
   some ([.p (.list true bZ []),.p (.int .i64 3)],[])
  else
   bif (AU acts ((iE.length:Nat):Int)) then
    some ([.p (.list true bZ []),.p (.int .i64 3)],[])
   else
    (C 39 [.p (.agg [.list false [.str] p_0,.list true bZ p_1,.list true dD iE]),.p (.int .i64 acts)] []).bind fun r2 =>
    some ([.p (.list true bZ ((r2.1.headD .undef).pv.toList)),.p (.int .i64 0)],[]):=by kernel_rfl
def yE (t' yF Ei:Int)(bQ aH bG:List PV):St:=⟨.undef::(.p (.int .i64 t'))::(.ptr 2 0 0)::.undef::(.p (.int .i64 yF))::(.p (.int .i64 Ei))::List.replicate 53 .undef,[(2,.box [.p (.list false [.str] bQ),.p (.list true bZ aH),.p (.list true dD bG)])]⟩
theorem e13 (C:aA) (p_0 p_1 iE:List PV)(t:Int):bf tab C 13 [.p (.agg [.list false [.str] p_0,.list true bZ p_1,.list true dD iE]),.p (.int .i64 t)] [] =
 (C 23 [.p (.agg [.list false [.str] p_0,.list true bZ p_1,.list true dD iE])] []).bind fun r1 =>
 bif ((r1.1.tail.headD .undef).pv.toInt != (0:Int)) then
  some ([.p (.int .i64 0),.p (.int .i64 0),.p (.int .i64 ((r1.1.tail.headD .undef).pv.toInt))],[])
 else
  bif (eY t (0:Int)) then
   some ([.p (.int .i64 0),.p (.int .i64 0),.p (.int .i64 3)],[])
  else
   bif (AU t ((r1.1.headD .undef).pv.toInt)) then
    some ([.p (.int .i64 0),.p (.int .i64 0),.p (.int .i64 3)],[])
   else
    bif ((r1.1.headD .undef).pv.toInt==(0:Int)) then
     some ([.p (.int .i64 0),.p (.int .i64 0),.p (.int .i64 3)],[])
    else
     L tab C 13 [] [.lp [1,1,1,0,0]] (yE t 0 0 p_0 p_1 iE):=by kernel_rfl
theorem Oe (C:aA) (t' yF Ei:Int)(bQ aH bG:List PV):R tab C 13 [] [.lp [1,1,1,0,0]] (yE t' yF Ei bQ aH bG) =
 bif (eY yF (IntKind.i64.wrap (((bG.length:Nat):Int)-(1:Int)))) then
  bif ((leI (0:Int) yF)&&(eY yF ((bG.length:Nat):Int))) then bif (leI (IntKind.i64.wrap (Ei+((bG.getD yF.toNat .nil).cell 1).toInt)) t') then
   bif ((leI (0:Int) yF)&&(eY yF ((bG.length:Nat):Int))) then L tab C 13 [] [.lp [1,1,1,0,0]] (yE t' (IntKind.i64.wrap (yF+(1:Int))) (IntKind.i64.wrap (Ei+((bG.getD yF.toNat .nil).cell 1).toInt)) bQ aH bG) else none
  else
   some ([.p (.int .i64 yF),.p (.int .i64 Ei),.p (.int .i64 0)],[]) else none
 else
  some ([.p (.int .i64 yF),.p (.int .i64 Ei),.p (.int .i64 0)],[]):=by kernel_rfl
theorem e14 (C:aA) (p_0 p_1 iE:List PV)(name:ByteArray):bf tab C 14 [.p (.agg [.list false [.str] p_0,.list true bZ p_1,.list true dD iE]),.p (.str name)] [] =
 (C 10 [.p (.agg [.list false [.str] p_0,.list true bZ p_1,.list true dD iE])] []).bind fun r1 =>
 bif (!(r1.1.headD .undef).pv.toBool) then
  some ([.p (.int .i64 0),.p (.int .i64 2)],[])
 else
  (C 40 [.p (.list false [.str] p_0),.p (.str name)] []).bind fun r2 =>
  bif (eY ((r2.1.headD .undef).pv.toInt) (0:Int)) then
   some ([.p (.int .i64 0),.p (.int .i64 9)],[])
  else
   some ([.p (.int .i64 ((r2.1.headD .undef).pv.toInt)),.p (.int .i64 0)],[]):=by kernel_rfl
def qx (AL i':Int)(bQ aH bG:List PV):St:=⟨.undef::(.ptr 1 0 0)::.undef::(.p (.int .i64 AL))::(.p (.int .i64 i'))::List.replicate 168 .undef,[(1,.box [.p (.list false [.str] bQ),.p (.list true bZ aH),.p (.list true dD bG)])]⟩
def jB (AL i' k':Int)(bQ aH bG:List PV):St:=⟨.undef::(.ptr 1 0 0)::.undef::(.p (.int .i64 AL))::(.p (.int .i64 i'))::(.p (.int .i64 k'))::List.replicate 167 .undef,[(1,.box [.p (.list false [.str] bQ),.p (.list true bZ aH),.p (.list true dD bG)])]⟩
def jJ (AL at_':Int)(oC qy:Nat)(a':Int)(bQ aH bG qA:List PV):St:=⟨.undef::(.ptr 1 0 0)::.undef::(.p (.int .i64 AL))::.undef::.undef::(.p (.int .i64 at_'))::(.slice 7 1 oC qy)::(.p (.int .i64 a'))::List.replicate 164 .undef,[(1,.box [.p (.list false [.str] bQ),.p (.list true bZ aH),.p (.list true dD bG)]),(7,.arr false [.int .i64] qA)]⟩
def gu (AL at_':Int)(oC qy:Nat)(a':Int)(qN CQ:Nat)(i':Int)(bQ aH bG qA:List PV)(aaR:ByteArray)(Uu:Int)(AO xu:List PV):St:=⟨.undef::(.ptr 1 0 0)::.undef::(.p (.int .i64 AL))::.undef::.undef::(.p (.int .i64 at_'))::(.slice 7 1 oC qy)::(.p (.int .i64 a'))::(.ptr 9 0 0)::(.slice 10 3 qN CQ)::(.p (.int .i64 i'))::List.replicate 161 .undef,[(1,.box [.p (.list false [.str] bQ),.p (.list true bZ aH),.p (.list true dD bG)]),(7,.arr false [.int .i64] qA),(9,.box [.p (.str aaR),.p (.int .i64 Uu),.p (.list true kR AO)]),(10,.arr true bZ xu)]⟩
theorem e15 (C:aA) (p_0 p_1 iE:List PV):bf tab C 15 [.p (.agg [.list false [.str] p_0,.list true bZ p_1,.list true dD iE])] [] =
 bif (eY ((p_0.length:Nat):Int) (1:Int)) then
  some ([.p (.bool false)],[])
 else
  bif (AU ((p_0.length:Nat):Int) (64:Int)) then
   some ([.p (.bool false)],[])
  else
   bif (((p_1.length:Nat):Int) != ((p_0.length:Nat):Int)) then
    some ([.p (.bool false)],[])
   else
    bif (AU ((iE.length:Nat):Int) (60:Int)) then
     some ([.p (.bool false)],[])
    else
     L tab C 15 [] [.lp [1,1,1,0,1,0]] (qx ((p_0.length:Nat):Int) 0 p_0 p_1 iE):=by kernel_rfl
theorem J8 (C:aA) (AL i':Int)(bQ aH bG:List PV):R tab C 15 [] [.lp [1,1,1,0,1,0]] (qx AL i' bQ aH bG) =
 bif (eY i' AL) then
  bif ((leI (0:Int) i')&&(eY i' ((bQ.length:Nat):Int))) then(C 41 [.p (.str (((bQ.getD i'.toNat .nil).cell 0).toStr))] []).bind fun r1 =>
  bif (!(r1.1.headD .undef).pv.toBool) then
   some ([.p (.bool false)],[])
  else
   bif ((leI (0:Int) i')&&(eY i' ((aH.length:Nat):Int))) then(C 42 [.p (.agg [.int .i64 (((aH.getD i'.toNat .nil).cell 0).toInt),.int .i64 (((aH.getD i'.toNat .nil).cell 1).toInt),.int .i64 (((aH.getD i'.toNat .nil).cell 2).toInt)])] []).bind fun r2 =>
   bif (!(r2.1.headD .undef).pv.toBool) then
    some ([.p (.bool false)],[])
   else
    L tab C 15 [] [.lp [1,1,1,0,1,0],.lp [1,0,0,1,1,0]] (jB AL i' 0 bQ aH bG) else none else none
 else
  bif ((leI (0:Int) AL)&&((leI AL AL)&&(leI AL (2147483648:Int)))) then L tab C 15 [] [.lp [1,1,1,1,1,1,0,1,0]] (jJ AL 0 0 AL.toNat 0 bQ aH bG (List.replicate AL.toNat (PV.int .i64 0))) else none:=by kernel_rfl
theorem wI (C:aA) (AL i' k':Int)(bQ aH bG:List PV):R tab C 15 [] [.lp [1,1,1,0,1,0],.lp [1,0,0,1,1,0]] (jB AL i' k' bQ aH bG) =
 bif (eY k' i') then
  bif ((leI (0:Int) k')&&(eY k' ((bQ.length:Nat):Int))) then bif ((leI (0:Int) i')&&(eY i' ((bQ.length:Nat):Int))) then bif ((((bQ.getD k'.toNat .nil).cell 0).toStr).toList==(((bQ.getD i'.toNat .nil).cell 0).toStr).toList) then
   some ([.p (.bool false)],[])
  else
   bif ((leI (0:Int) k')&&(eY k' ((aH.length:Nat):Int))) then bif ((leI (0:Int) i')&&(eY i' ((aH.length:Nat):Int))) then bif ((((aH.getD k'.toNat .nil).cell 0).toInt==((aH.getD i'.toNat .nil).cell 0).toInt)&&((((aH.getD k'.toNat .nil).cell 1).toInt==((aH.getD i'.toNat .nil).cell 1).toInt)&&((((aH.getD k'.toNat .nil).cell 2).toInt==((aH.getD i'.toNat .nil).cell 2).toInt)&&true))) then
    some ([.p (.bool false)],[])
   else
    L tab C 15 [] [.lp [1,1,1,0,1,0],.lp [1,0,0,1,1,0]] (jB AL i' (IntKind.i64.wrap (k'+(1:Int))) bQ aH bG) else none else none else none else none
 else
  L tab C 15 [] [.lp [1,1,1,0,1,0]] (qx AL (IntKind.i64.wrap (i'+(1:Int))) bQ aH bG):=by kernel_rfl
theorem DJ (C:aA) (AL at_':Int)(oC qy:Nat)(a':Int)(bQ aH bG qA:List PV):R tab C 15 [] [.lp [1,1,1,1,1,1,0,1,0]] (jJ AL at_' oC qy a' bQ aH bG qA) =
 bif (eY a' ((bG.length:Nat):Int)) then
  bif ((leI (0:Int) a')&&(eY a' ((bG.length:Nat):Int))) then(C 41 [.p (.str (((bG.getD a'.toNat .nil).cell 0).toStr))] []).bind fun r1 =>
  bif (!(r1.1.headD .undef).pv.toBool) then
   some ([.p (.bool false)],[])
  else
   bif (eY (((bG.getD a'.toNat .nil).cell 1).toInt) (1:Int)) then
    some ([.p (.bool false)],[])
   else
    bif (AU (((bG.getD a'.toNat .nil).cell 1).toInt) (IntKind.i64.wrap ((3600000:Int)-at_'))) then
     some ([.p (.bool false)],[])
    else
     bif ((((((bG.getD a'.toNat .nil).cell 2).toList).length:Nat):Int) != AL) then
      some ([.p (.bool false)],[])
     else
      (C 17 [.p (.agg [.list false [.str] bQ,.list true bZ aH,.list true dD bG]),.p (.int .i64 a')] []).bind fun r2 =>
      L tab C 15 [] [.lp [1,1,1,1,1,1,0,1,0],.lp [1,0,0,1,1,1,0,1,0]] (gu AL at_' oC qy a' 0 ((r2.1.headD .undef).ak.length) 0 bQ aH bG qA (((bG.getD a'.toNat .nil).cell 0).toStr) (((bG.getD a'.toNat .nil).cell 1).toInt) (((bG.getD a'.toNat .nil).cell 2).toList) ((r2.1.headD .undef).ak)) else none
 else
  some ([.p (.bool true)],[]):=by kernel_rfl
theorem oL (C:aA) (AL at_':Int)(oC qy:Nat)(a':Int)(qN CQ:Nat)(i':Int)(bQ aH bG qA:List PV)(aaR:ByteArray)(Uu:Int)(AO xu:List PV):R tab C 15 [] [.lp [1,1,1,1,1,1,0,1,0],.lp [1,0,0,1,1,1,0,1,0]] (gu AL at_' oC qy a' qN CQ i' bQ aH bG qA aaR Uu AO xu) =
 bif (eY i' AL) then
  bif ((leI (0:Int) i')&&(eY i' (CQ:Int))) then bif ((leI (0:Int) i')&&(eY i' ((AO.length:Nat):Int))) then(C 43 [.p (.agg [.int .i64 (((xu.getD (qN+i'.toNat) .nil).cell 0).toInt),.int .i64 (((xu.getD (qN+i'.toNat) .nil).cell 1).toInt),.int .i64 (((xu.getD (qN+i'.toNat) .nil).cell 2).toInt)]),.p (.agg [.int .i64 (((AO.getD i'.toNat .nil).cell 0).toInt),.int .i64 (((AO.getD i'.toNat .nil).cell 1).toInt),.int .i64 (((AO.getD i'.toNat .nil).cell 2).toInt),.int .i64 (((AO.getD i'.toNat .nil).cell 3).toInt),.int .i64 (((AO.getD i'.toNat .nil).cell 4).toInt),.int .i64 (((AO.getD i'.toNat .nil).cell 5).toInt)]),.p (.int .i64 Uu)] []).bind fun r1 =>
  bif (!(r1.1.headD .undef).pv.toBool) then
   some ([.p (.bool false)],[])
  else
   bif ((leI (0:Int) i')&&(eY i' (qy:Int))) then bif ((leI (0:Int) i')&&(eY i' (CQ:Int))) then bif ((leI (0:Int) i')&&(eY i' ((AO.length:Nat):Int))) then(C 44 [.p (.agg [.int .i64 (((xu.getD (qN+i'.toNat) .nil).cell 0).toInt),.int .i64 (((xu.getD (qN+i'.toNat) .nil).cell 1).toInt),.int .i64 (((xu.getD (qN+i'.toNat) .nil).cell 2).toInt)]),.p (.agg [.int .i64 (((AO.getD i'.toNat .nil).cell 0).toInt),.int .i64 (((AO.getD i'.toNat .nil).cell 1).toInt),.int .i64 (((AO.getD i'.toNat .nil).cell 2).toInt),.int .i64 (((AO.getD i'.toNat .nil).cell 3).toInt),.int .i64 (((AO.getD i'.toNat .nil).cell 4).toInt),.int .i64 (((AO.getD i'.toNat .nil).cell 5).toInt)]),.p (.int .i64 at_'),.p (.int .i64 Uu)] []).bind fun r2 =>
   bif ((leI (0:Int) i')&&(eY i' (qy:Int))) then bif ((leI (0:Int) i')&&(eY i' (qy:Int))) then bif (AU ((((qA.set (oC+i'.toNat) (PV.int .i64 (IntKind.i64.wrap (((qA.getD (oC+i'.toNat) .nil).cell 0).toInt+(((r2.1.headD .undef).ak.length:Nat):Int))))).getD (oC+i'.toNat) .nil).cell 0).toInt) (256:Int)) then
    some ([.p (.bool false)],[])
   else
    L tab C 15 [] [.lp [1,1,1,1,1,1,0,1,0],.lp [1,0,0,1,1,1,0,1,0]] (gu AL at_' oC qy a' qN CQ (IntKind.i64.wrap (i'+(1:Int))) bQ aH bG (qA.set (oC+i'.toNat) (PV.int .i64 (IntKind.i64.wrap (((qA.getD (oC+i'.toNat) .nil).cell 0).toInt+(((r2.1.headD .undef).ak.length:Nat):Int))))) aaR Uu AO xu) else none else none else none else none else none else none else none
 else
  L tab C 15 [] [.lp [1,1,1,1,1,1,0,1,0]] (jJ AL (IntKind.i64.wrap (at_'+Uu)) oC qy (IntKind.i64.wrap (a'+(1:Int))) bQ aH bG qA):=by kernel_rfl
def yG (a' b':List PV)(i':Int):St:=⟨(.p (.list true bZ a'))::(.p (.list true bZ b'))::.undef::.undef::.undef::(.p (.int .i64 i'))::List.replicate 20 .undef,[]⟩
theorem e16 (C:aA) (a b:List PV):bf tab C 16 [.p (.list true bZ a),.p (.list true bZ b)] [] =
 bif (((a.length:Nat):Int) != ((b.length:Nat):Int)) then
  some ([.p (.bool false)],[])
 else
  L tab C 16 [] [.lp [1,1,0,1,0]] (yG a b 0):=by kernel_rfl
theorem Og (C:aA) (a' b':List PV)(i':Int):R tab C 16 [] [.lp [1,1,0,1,0]] (yG a' b' i') =
 bif (eY i' ((a'.length:Nat):Int)) then
  bif ((leI (0:Int) i')&&(eY i' ((a'.length:Nat):Int))) then bif ((leI (0:Int) i')&&(eY i' ((b'.length:Nat):Int))) then bif (!((((a'.getD i'.toNat .nil).cell 0).toInt==((b'.getD i'.toNat .nil).cell 0).toInt)&&((((a'.getD i'.toNat .nil).cell 1).toInt==((b'.getD i'.toNat .nil).cell 1).toInt)&&((((a'.getD i'.toNat .nil).cell 2).toInt==((b'.getD i'.toNat .nil).cell 2).toInt)&&true)))) then
   some ([.p (.bool false)],[])
  else
   L tab C 16 [] [.lp [1,1,0,1,0]] (yG a' b' (IntKind.i64.wrap (i'+(1:Int)))) else none else none
 else
  some ([.p (.bool true)],[]):=by kernel_rfl
def zu (uM:Int)(Ro J9:Nat)(i':Int)(bQ aH bG Rq:List PV):St:=⟨.undef::(.p (.int .i64 uM))::(.ptr 2 0 0)::.undef::.undef::(.slice 5 3 Ro J9)::(.p (.int .i64 i'))::List.replicate 32 .undef,[(2,.box [.p (.list false [.str] bQ),.p (.list true bZ aH),.p (.list true dD bG)]),(5,.arr true bZ Rq)]⟩
theorem e17 (C:aA) (p_0 p_1 iE:List PV)(acts:Int):bf tab C 17 [.p (.agg [.list false [.str] p_0,.list true bZ p_1,.list true dD iE]),.p (.int .i64 acts)] [] =
 bif (acts==(0:Int)) then
  bif (Ny p_1.length 2147483648) then some ([.fresh true bZ ((p_1.drop 0).take p_1.length)],[]) else none
 else
  L tab C 17 [] [.lp [1,1,1,0,1,0]] (zu acts 0 0 0 p_0 p_1 iE []):=by kernel_rfl
theorem Ko (C:aA) (uM:Int)(Ro J9:Nat)(i':Int)(bQ aH bG Rq:List PV):R tab C 17 [] [.lp [1,1,1,0,1,0]] (zu uM Ro J9 i' bQ aH bG Rq) =
 bif ((leI (0:Int) (IntKind.i64.wrap (uM-(1:Int))))&&(eY (IntKind.i64.wrap (uM-(1:Int))) ((bG.length:Nat):Int))) then bif (eY i' (((((bG.getD ((IntKind.i64.wrap (uM-(1:Int))).toNat) .nil).cell 2).toList).length:Nat):Int)) then
  bif ((leI (0:Int) (IntKind.i64.wrap (uM-(1:Int))))&&(eY (IntKind.i64.wrap (uM-(1:Int))) ((bG.length:Nat):Int))) then bif ((leI (0:Int) i')&&(eY i' (((((bG.getD ((IntKind.i64.wrap (uM-(1:Int))).toNat) .nil).cell 2).toList).length:Nat):Int))) then bif (Ny (J9+1) 2147483648) then L tab C 17 [] [.lp [1,1,1,0,1,0]] (zu uM 0 (J9+1) (IntKind.i64.wrap (i'+(1:Int))) bQ aH bG (((Rq.drop Ro).take J9)++([.agg [.int .i64 ((((((bG.getD ((IntKind.i64.wrap (uM-(1:Int))).toNat) .nil).cell 2).toList).getD i'.toNat .nil).cell 0).toInt),.int .i64 ((((((bG.getD ((IntKind.i64.wrap (uM-(1:Int))).toNat) .nil).cell 2).toList).getD i'.toNat .nil).cell 1).toInt),.int .i64 ((((((bG.getD ((IntKind.i64.wrap (uM-(1:Int))).toNat) .nil).cell 2).toList).getD i'.toNat .nil).cell 2).toInt)]]:List PV))) else none else none else none
 else
  some ([.fresh true bZ ((Rq.drop Ro).take J9)],[]) else none:=by kernel_rfl
theorem e20 (C:aA) (p_0 p_1 iE:List PV)(a_0:ByteArray)(a_1:Int)(a_2:List PV):bf tab C 20 [.p (.agg [.list false [.str] p_0,.list true bZ p_1,.list true dD iE]),.p (.agg [.str a_0,.int .i64 a_1,.list true kR a_2])] [] =
 (C 10 [.p (.agg [.list false [.str] p_0,.list true bZ p_1,.list true dD iE])] []).bind fun r1 =>
 bif (!(r1.1.headD .undef).pv.toBool) then
  some ([.p (.agg [.nil,.nil,.nil]),.p (.int .i64 2)],[])
 else
  (C 32 [.p (.agg [.list false [.str] p_0,.list true bZ p_1,.list true dD iE])] []).bind fun r2 =>
  (C 45 [.p (.list true kR a_2)] []).bind fun r3 =>
  bif (Ny ((r2.1.headD .undef).nZ.length+1) 2147483648) then(C 10 [.p (.agg [.list false [.str] (((r2.1.headD .undef).AY.cell 0).toList),.list true bZ (((r2.1.headD .undef).AY.cell 1).toList),.list true dD (((((((r2.1.headD .undef).nZ).drop 0).take ((r2.1.headD .undef).nZ.length))++([.agg [.str a_0,.int .i64 a_1,.list true kR ((r3.1.headD .undef).pv.toList)]]:List PV)).drop 0).take ((r2.1.headD .undef).nZ.length+1))])] []).bind fun r4 =>
  bif (!(r4.1.headD .undef).pv.toBool) then
   some ([.p (.agg [.nil,.nil,.nil]),.p (.int .i64 10)],[])
  else
   some ([.p (.agg [.list false [.str] (((r2.1.headD .undef).AY.cell 0).toList),.list true bZ (((r2.1.headD .undef).AY.cell 1).toList),.list true dD (((((((r2.1.headD .undef).nZ).drop 0).take ((r2.1.headD .undef).nZ.length))++([.agg [.str a_0,.int .i64 a_1,.list true kR ((r3.1.headD .undef).pv.toList)]]:List PV)).drop 0).take ((r2.1.headD .undef).nZ.length+1))]),.p (.int .i64 0)],[]) else none:=by kernel_rfl
def yH (i':Int)(bQ aH bG AP yI yJ:List PV):St:=⟨.undef::.undef::(.ptr 2 0 0)::(.ptr 3 0 0)::.undef::(.p (.int .i64 i'))::List.replicate 102 .undef,[(2,.box [.p (.list false [.str] bQ),.p (.list true bZ aH),.p (.list true dD bG)]),(3,.box [.p (.list false [.str] AP),.p (.list true bZ yI),.p (.list true dD yJ)])]⟩
def uS (i':Int)(bQ aH bG AP yI yJ:List PV):St:=⟨.undef::.undef::(.ptr 2 0 0)::(.ptr 3 0 0)::.undef::.undef::(.p (.int .i64 i'))::List.replicate 101 .undef,[(2,.box [.p (.list false [.str] bQ),.p (.list true bZ aH),.p (.list true dD bG)]),(3,.box [.p (.list false [.str] AP),.p (.list true bZ yI),.p (.list true dD yJ)])]⟩
def ru (a':Int)(bQ aH bG AP yI yJ:List PV):St:=⟨.undef::.undef::(.ptr 2 0 0)::(.ptr 3 0 0)::.undef::.undef::.undef::(.p (.int .i64 a'))::List.replicate 100 .undef,[(2,.box [.p (.list false [.str] bQ),.p (.list true bZ aH),.p (.list true dD bG)]),(3,.box [.p (.list false [.str] AP),.p (.list true bZ yI),.p (.list true dD yJ)])]⟩
theorem e21 (C:aA) (p_0 p_1 iE q_0 q_1 q_2:List PV):bf tab C 21 [.p (.agg [.list false [.str] p_0,.list true bZ p_1,.list true dD iE]),.p (.agg [.list false [.str] q_0,.list true bZ q_1,.list true dD q_2])] [] =
 bif (((p_0.length:Nat):Int) != ((q_0.length:Nat):Int)) then
  some ([.p (.bool false)],[])
 else
  bif (((p_1.length:Nat):Int) != ((q_1.length:Nat):Int)) then
   some ([.p (.bool false)],[])
  else
   bif (((iE.length:Nat):Int) != ((q_2.length:Nat):Int)) then
    some ([.p (.bool false)],[])
   else
    L tab C 21 [] [.lp [1,1,0,1,0]] (yH 0 p_0 p_1 iE q_0 q_1 q_2):=by kernel_rfl
theorem Oh (C:aA) (i':Int)(bQ aH bG AP yI yJ:List PV):R tab C 21 [] [.lp [1,1,0,1,0]] (yH i' bQ aH bG AP yI yJ) =
 bif (eY i' ((bQ.length:Nat):Int)) then
  bif ((leI (0:Int) i')&&(eY i' ((bQ.length:Nat):Int))) then bif ((leI (0:Int) i')&&(eY i' ((AP.length:Nat):Int))) then bif (!((((bQ.getD i'.toNat .nil).cell 0).toStr).toList==(((AP.getD i'.toNat .nil).cell 0).toStr).toList)) then
   some ([.p (.bool false)],[])
  else
   L tab C 21 [] [.lp [1,1,0,1,0]] (yH (IntKind.i64.wrap (i'+(1:Int))) bQ aH bG AP yI yJ) else none else none
 else
  L tab C 21 [] [.lp [1,1,1,0,1,0]] (uS 0 bQ aH bG AP yI yJ):=by kernel_rfl
theorem Kq (C:aA) (i':Int)(bQ aH bG AP yI yJ:List PV):R tab C 21 [] [.lp [1,1,1,0,1,0]] (uS i' bQ aH bG AP yI yJ) =
 bif (eY i' ((aH.length:Nat):Int)) then
  bif ((leI (0:Int) i')&&(eY i' ((aH.length:Nat):Int))) then bif ((leI (0:Int) i')&&(eY i' ((yI.length:Nat):Int))) then bif (!((((aH.getD i'.toNat .nil).cell 0).toInt==((yI.getD i'.toNat .nil).cell 0).toInt)&&((((aH.getD i'.toNat .nil).cell 1).toInt==((yI.getD i'.toNat .nil).cell 1).toInt)&&((((aH.getD i'.toNat .nil).cell 2).toInt==((yI.getD i'.toNat .nil).cell 2).toInt)&&true)))) then
   some ([.p (.bool false)],[])
  else
   L tab C 21 [] [.lp [1,1,1,0,1,0]] (uS (IntKind.i64.wrap (i'+(1:Int))) bQ aH bG AP yI yJ) else none else none
 else
  L tab C 21 [] [.lp [1,1,1,1,0,1,0]] (ru 0 bQ aH bG AP yI yJ):=by kernel_rfl
theorem Iw (C:aA) (a':Int)(bQ aH bG AP yI yJ:List PV):R tab C 21 [] [.lp [1,1,1,1,0,1,0]] (ru a' bQ aH bG AP yI yJ) =
 bif (eY a' ((bG.length:Nat):Int)) then
  bif ((leI (0:Int) a')&&(eY a' ((bG.length:Nat):Int))) then bif ((leI (0:Int) a')&&(eY a' ((yJ.length:Nat):Int))) then bif (!((((bG.getD a'.toNat .nil).cell 0).toStr).toList==(((yJ.getD a'.toNat .nil).cell 0).toStr).toList)) then
   some ([.p (.bool false)],[])
  else
   bif (((bG.getD a'.toNat .nil).cell 1).toInt != ((yJ.getD a'.toNat .nil).cell 1).toInt) then
    some ([.p (.bool false)],[])
   else
    (C 46 [.p (.list true kR (((bG.getD a'.toNat .nil).cell 2).toList)),.p (.list true kR (((yJ.getD a'.toNat .nil).cell 2).toList))] []).bind fun r1 =>
    bif (!(r1.1.headD .undef).pv.toBool) then
     some ([.p (.bool false)],[])
    else
     L tab C 21 [] [.lp [1,1,1,1,0,1,0]] (ru (IntKind.i64.wrap (a'+(1:Int))) bQ aH bG AP yI yJ) else none else none
 else
  some ([.p (.bool true)],[]):=by kernel_rfl
def uT (AL:Int)(wu:List PV)(l7 bT:Int):St:=⟨Uq 4 ((.p (.int .i64 AL))::Uq 6 ((.p (.list true dD wu))::(.p (.int .i64 l7))::(.p (.int .i64 bT))::List.replicate 9 .undef)),[]⟩
theorem e23 (C:aA) (p_0 p_1 iE:List PV):bf tab C 23 [.p (.agg [.list false [.str] p_0,.list true bZ p_1,.list true dD iE])] [] =
 (C 10 [.p (.agg [.list false [.str] p_0,.list true bZ p_1,.list true dD iE])] []).bind fun r1 =>
 bif (!(r1.1.headD .undef).pv.toBool) then
  some ([.p (.int .i64 0),.p (.int .i64 2)],[])
 else
  L tab C 23 [] [.lp [1,1,1,0,1,0]] (uT 0 iE ((iE.length:Nat):Int) 0):=by kernel_rfl
theorem Kr (C:aA) (AL:Int)(wu:List PV)(l7 bT:Int):R tab C 23 [] [.lp [1,1,1,0,1,0]] (uT AL wu l7 bT) =
 bif (eY bT l7) then
  bif ((leI (0:Int) bT)&&(eY bT ((wu.length:Nat):Int))) then L tab C 23 [] [.lp [1,1,1,0,1,0]] (uT (IntKind.i64.wrap (AL+((wu.getD bT.toNat .nil).cell 1).toInt)) wu l7 (IntKind.i64.wrap (bT+(1:Int)))) else none
 else
  some ([.p (.int .i64 AL),.p (.int .i64 0)],[]):=by kernel_rfl
theorem e24 (C:aA) (p_0 p_1 iE:List PV)(fD:Int):bf tab C 24 [.p (.agg [.list false [.str] p_0,.list true bZ p_1,.list true dD iE]),.p (.int .i64 fD)] [] =
 (C 10 [.p (.agg [.list false [.str] p_0,.list true bZ p_1,.list true dD iE])] []).bind fun r1 =>
 bif (!(r1.1.headD .undef).pv.toBool) then
  some ([.p (.list true iy []),.p (.int .i64 2)],[])
 else
  bif (eY fD (0:Int)) then
   some ([.p (.list true iy []),.p (.int .i64 3)],[])
  else
   bif (Nz fD ((p_0.length:Nat):Int)) then
    some ([.p (.list true iy []),.p (.int .i64 3)],[])
   else
    bif (((iE.length:Nat):Int)==(0:Int)) then
     some ([.p (.list true iy []),.p (.int .i64 9)],[])
    else
     (C 47 [.p (.agg [.list false [.str] p_0,.list true bZ p_1,.list true dD iE])] []).bind fun r2 =>
     bif ((leI (0:Int) fD)&&(eY fD (((r2.1.headD .undef).ak.length:Nat):Int))) then some ([.p (.list true iy (((((r2.1.headD .undef).ak).getD (0+fD.toNat) .nil).cell 0).toList)),.p (.int .i64 0)],[]) else none:=by kernel_rfl
end Go.Skm.Prg
