/-
  What the machine does in each function of this program, and in each round of each loop; no condition.
-/
import Derived.Test.YtipkmkmngcjdbaaGreatDoorSkmE
import Derived.Test.YtipkmkmngcjdbaaGreatDoorTab
import Derived.KernelRfl
set_option maxRecDepth 100000
namespace Go.Skm.Fig
open Go Go.Skm
theorem e3 (C:aF) (f:List PV):bn tab C 3 [.p (.list true gJ f)] [] =
 (C 10 [.p (.list true gJ f)] []).bind fun r1 =>
 bif (!(r1.1.headD .undef).pv.toBool) then
  (C 12 [] []).bind fun r2 =>
  some ([.p (.bool ((r2.1.headD .undef).pv.toBool))],[])
 else
  (C 11 [.p (.list true gJ f)] []).bind fun r3 =>
  bif (!(r3.1.headD .undef).pv.toBool) then
   (C 12 [] []).bind fun r4 =>
   some ([.p (.bool ((r4.1.headD .undef).pv.toBool))],[])
  else
   (C 13 [.p (.list true gJ f)] []).bind fun r5 =>
   (C 14 [.p (.list true gJ f)] []).bind fun r6 =>
   bif (!(r6.1.headD .undef).pv.toBool) then
    bif ((((r5.1.headD .undef).ak.length:Nat):Int)==(0:Int)) then
     bif ((r5.1.tail.headD .undef).pv.toInt==(2:Int)) then
      (C 12 [] []).bind fun r7 =>
      some ([.p (.bool ((r7.1.headD .undef).pv.toBool))],[])
     else
      some ([.p (.bool false)],[])
    else
     some ([.p (.bool false)],[])
   else
    (C 15 [.p (.list true gJ f)] []).bind fun r8 =>
    (C 16 [.p (.list true gU ((((r5.1.headD .undef).ak).drop 0).take ((r5.1.headD .undef).ak.length))),.p (.list true gU ((((r8.1.headD .undef).ak).drop 0).take ((r8.1.headD .undef).ak.length)))] []).bind fun r9 =>
    bif (r9.1.headD .undef).pv.toBool then
     bif ((r5.1.tail.headD .undef).pv.toInt==(r8.1.tail.headD .undef).pv.toInt) then
      (C 12 [] []).bind fun r10 =>
      some ([.p (.bool ((r10.1.headD .undef).pv.toBool))],[])
     else
      some ([.p (.bool false)],[])
    else
     some ([.p (.bool false)],[]):=by kernel_rfl
theorem e4 (C:aF) (f:List PV):bn tab C 4 [.p (.list true gJ f)] [] =
 (C 10 [.p (.list true gJ f)] []).bind fun r1 =>
 bif (!(r1.1.headD .undef).pv.toBool) then
  (C 12 [] []).bind fun r2 =>
  some ([.p (.bool ((r2.1.headD .undef).pv.toBool))],[])
 else
  (C 17 [.p (.list true gJ f)] []).bind fun r3 =>
  (C 14 [.p (.list true gJ f)] []).bind fun r4 =>
  bif (!(r4.1.headD .undef).pv.toBool) then
   bif (((r3.1.headD .undef).pv.toStr).toList==(⟨#[]⟩:ByteArray).toList) then
    bif ((r3.1.tail.headD .undef).pv.toInt==(2:Int)) then
     (C 12 [] []).bind fun r5 =>
     some ([.p (.bool ((r5.1.headD .undef).pv.toBool))],[])
    else
     some ([.p (.bool false)],[])
   else
    some ([.p (.bool false)],[])
  else
   (C 18 [.p (.list true gJ f)] []).bind fun r6 =>
   bif (((r3.1.headD .undef).pv.toStr).toList==((r6.1.headD .undef).pv.toStr).toList) then
    bif ((r3.1.tail.headD .undef).pv.toInt==(0:Int)) then
     (C 12 [] []).bind fun r7 =>
     some ([.p (.bool ((r7.1.headD .undef).pv.toBool))],[])
    else
     some ([.p (.bool false)],[])
   else
    some ([.p (.bool false)],[]):=by kernel_rfl
def Ti (s':ByteArray)(more' i':Int):St:=⟨(.p (.str s'))::(.p (.int .i64 more'))::.undef::.undef::.undef::(.p (.int .i64 i'))::List.replicate 51 .undef,[]⟩
theorem e5 (C:aF) (s:ByteArray)(more:Int):bn tab C 5 [.p (.str s),.p (.int .i64 more)] [] =
 bif (Dt ((s.size:Nat):Int) (500:Int)) then
  (C 12 [] []).bind fun r1 =>
  some ([.p (.bool ((r1.1.headD .undef).pv.toBool))],[])
 else
  bif (wJ more (45:Int)) then
   bif (leI more (55:Int)) then
    L tab C 5 [] [.lp [1,1,0,1,0,1,0]] (Ti s more 0)
   else
    (C 19 [.p (.str s)] []).bind fun r2 =>
    (C 20 [.p (.str s)] []).bind fun r3 =>
    (C 21 [.p (.list true gJ ((((r2.1.headD .undef).ak).drop 0).take ((r2.1.headD .undef).ak.length))),.p (.list true gJ ((((r3.1.headD .undef).ak).drop 0).take ((r3.1.headD .undef).ak.length)))] []).bind fun r4 =>
    bif (r4.1.headD .undef).pv.toBool then
     bif ((r2.1.tail.headD .undef).pv.toInt==(r3.1.tail.headD .undef).pv.toInt) then
      bif ((r2.1.tail.tail.headD .undef).pv.toInt==(r3.1.tail.tail.headD .undef).pv.toInt) then
       (C 12 [] []).bind fun r5 =>
       some ([.p (.bool ((r5.1.headD .undef).pv.toBool))],[])
      else
       some ([.p (.bool false)],[])
     else
      some ([.p (.bool false)],[])
    else
     some ([.p (.bool false)],[])
  else
   (C 19 [.p (.str s)] []).bind fun r6 =>
   (C 20 [.p (.str s)] []).bind fun r7 =>
   (C 21 [.p (.list true gJ ((((r6.1.headD .undef).ak).drop 0).take ((r6.1.headD .undef).ak.length))),.p (.list true gJ ((((r7.1.headD .undef).ak).drop 0).take ((r7.1.headD .undef).ak.length)))] []).bind fun r8 =>
   bif (r8.1.headD .undef).pv.toBool then
    bif ((r6.1.tail.headD .undef).pv.toInt==(r7.1.tail.headD .undef).pv.toInt) then
     bif ((r6.1.tail.tail.headD .undef).pv.toInt==(r7.1.tail.tail.headD .undef).pv.toInt) then
      (C 12 [] []).bind fun r9 =>
      some ([.p (.bool ((r9.1.headD .undef).pv.toBool))],[])
     else
      some ([.p (.bool false)],[])
    else
     some ([.p (.bool false)],[])
   else
    some ([.p (.bool false)],[]):=by kernel_rfl
def MF (abX abY:Nat)(i':Int)(abZ:List PV):St:=⟨.undef::.undef::.undef::.undef::.undef::.undef::.undef::.undef::.undef::.undef::.undef::.undef::(.slice 12 6 abX abY)::(.p (.int .i64 i'))::List.replicate 126 .undef,[(12,.arr true gJ abZ)]⟩
theorem e7 (C:aF) (Jg step xI:Int):bn tab C 7 [.p (.int .i64 Jg),.p (.int .i64 step),.p (.int .i64 xI)] [] =
 bif (jo Jg (1:Int)) then
  (C 12 [] []).bind fun r1 =>
  some ([.p (.bool ((r1.1.headD .undef).pv.toBool))],[])
 else
  bif (Dt Jg (50:Int)) then
   (C 12 [] []).bind fun r2 =>
   some ([.p (.bool ((r2.1.headD .undef).pv.toBool))],[])
  else
   bif (jo step (1:Int)) then
    (C 12 [] []).bind fun r3 =>
    some ([.p (.bool ((r3.1.headD .undef).pv.toBool))],[])
   else
    bif (Dt step (10000:Int)) then
     (C 12 [] []).bind fun r4 =>
     some ([.p (.bool ((r4.1.headD .undef).pv.toBool))],[])
    else
     bif (jo xI (0:Int)) then
      (C 12 [] []).bind fun r5 =>
      some ([.p (.bool ((r5.1.headD .undef).pv.toBool))],[])
     else
      bif (Dt xI (2:Int)) then
       (C 12 [] []).bind fun r6 =>
       some ([.p (.bool ((r6.1.headD .undef).pv.toBool))],[])
      else
       (C 25 [.p (.int .i64 1),.p (.int .i64 2),.p (.int .i64 3)] []).bind fun r7 =>
       (C 13 [.p (.list true gJ [.agg [.int .i64 4,.list true gU [.agg [.int .i64 (((r7.1.headD .undef).pv.cell 0).toInt),.int .i64 (((r7.1.headD .undef).pv.cell 1).toInt),.int .i64 (((r7.1.headD .undef).pv.cell 2).toInt)]],.int .i64 0,.int .i64 Jg,.int .i64 step,.int .i64 xI]])] []).bind fun r8 =>
       (C 15 [.p (.list true gJ [.agg [.int .i64 4,.list true gU [.agg [.int .i64 (((r7.1.headD .undef).pv.cell 0).toInt),.int .i64 (((r7.1.headD .undef).pv.cell 1).toInt),.int .i64 (((r7.1.headD .undef).pv.cell 2).toInt)]],.int .i64 0,.int .i64 Jg,.int .i64 step,.int .i64 xI]])] []).bind fun r9 =>
       (C 16 [.p (.list true gU ((((r8.1.headD .undef).ak).drop 0).take ((r8.1.headD .undef).ak.length))),.p (.list true gU ((((r9.1.headD .undef).ak).drop 0).take ((r9.1.headD .undef).ak.length)))] []).bind fun r10 =>
       bif (!(r10.1.headD .undef).pv.toBool) then
        some ([.p (.bool false)],[])
       else
        bif ((r8.1.tail.headD .undef).pv.toInt != (0:Int)) then
         some ([.p (.bool false)],[])
        else
         L tab C 7 [] [.lp [1,1,1,1,1,1,1,0,1,0]] (MF 0 0 0 []):=by kernel_rfl
def rC (a':List PV)(l_o l_l m_o m_l:Nat)(i' k':Int)(ab3 ab4:Nat)(adQ adR iQ iR iT:Int)(l_b m_b ab5:List PV):St:=⟨(.p (.list true gJ a'))::.undef::.undef::.undef::.undef::.undef::(.ptr 6 0 0)::.undef::.undef::.undef::.undef::.undef::.undef::.undef::.undef::.undef::.undef::.undef::.undef::(.slice 19 3 l_o l_l)::(.slice 20 3 m_o m_l)::.undef::.undef::(.p (.int .i64 i'))::(.p (.int .i64 k'))::.undef::.undef::.undef::.undef::.undef::.undef::.undef::.undef::.undef::.undef::.undef::.undef::.undef::.undef::.undef::.undef::.undef::.undef::.undef::.undef::.undef::.undef::.undef::.undef::.undef::.undef::.undef::.undef::.undef::.undef::.undef::.undef::.undef::.undef::.undef::.undef::.undef::.undef::.undef::.undef::.undef::.undef::.undef::.undef::.undef::.undef::.undef::.undef::.undef::.undef::.undef::.undef::.undef::.undef::.undef::.undef::.undef::.undef::.undef::.undef::.undef::.undef::.undef::.undef::.undef::.undef::.undef::.undef::.undef::.undef::.undef::.undef::.undef::.undef::.undef::.undef::.undef::.undef::.undef::.undef::.undef::.undef::.undef::.undef::.undef::.undef::.undef::.undef::.undef::.undef::.undef::.undef::.undef::.undef::.undef::.undef::.undef::.undef::.undef::.undef::.undef::.undef::.undef::.undef::.undef::.undef::.undef::.undef::.undef::.undef::.undef::.undef::.undef::.undef::.undef::.undef::.undef::.undef::.undef::.undef::.undef::.undef::.undef::.undef::.undef::.undef::.undef::.undef::.undef::.undef::.undef::.undef::.undef::.undef::.undef::.undef::.undef::.undef::.undef::.undef::.undef::.undef::.undef::.undef::.undef::.undef::.undef::.undef::.undef::.undef::.undef::.undef::.undef::.undef::.undef::.undef::.undef::.undef::.undef::.undef::.undef::.undef::(.slice 21 3 ab3 ab4)::(.p (.int .i64 adQ))::(.p (.int .i64 adR))::List.replicate 147 .undef,[(6,.box [.p (.int .i64 iQ),.p (.int .i64 iR),.p (.int .i64 iT)]),(19,.arr true gU l_b),(20,.arr true gU m_b),(21,.arr true gU ab5)]⟩
def nR (a':List PV)(l_o l_l x_o x_l:Nat)(adS adT iQ iR iT:Int)(l_b x_b:List PV):St:=⟨(.p (.list true gJ a'))::.undef::.undef::.undef::.undef::.undef::(.ptr 6 0 0)::.undef::.undef::.undef::.undef::.undef::.undef::.undef::.undef::.undef::.undef::.undef::.undef::(.slice 19 3 l_o l_l)::.undef::.undef::.undef::.undef::.undef::.undef::.undef::.undef::.undef::.undef::(.slice 30 3 x_o x_l)::.undef::.undef::.undef::.undef::.undef::.undef::.undef::.undef::.undef::.undef::.undef::.undef::.undef::.undef::.undef::.undef::.undef::.undef::.undef::.undef::.undef::.undef::.undef::.undef::.undef::.undef::.undef::.undef::.undef::.undef::.undef::.undef::.undef::.undef::.undef::.undef::.undef::.undef::.undef::.undef::.undef::.undef::.undef::.undef::.undef::.undef::.undef::.undef::.undef::.undef::.undef::.undef::.undef::.undef::.undef::.undef::.undef::.undef::.undef::.undef::.undef::.undef::.undef::.undef::.undef::.undef::.undef::.undef::.undef::.undef::.undef::.undef::.undef::.undef::.undef::.undef::.undef::.undef::.undef::.undef::.undef::.undef::.undef::.undef::.undef::.undef::.undef::.undef::.undef::.undef::.undef::.undef::.undef::.undef::.undef::.undef::.undef::.undef::.undef::.undef::.undef::.undef::.undef::.undef::.undef::.undef::.undef::.undef::.undef::.undef::.undef::.undef::.undef::.undef::.undef::.undef::.undef::.undef::.undef::.undef::.undef::.undef::.undef::.undef::.undef::.undef::.undef::.undef::.undef::.undef::.undef::.undef::.undef::.undef::.undef::.undef::.undef::.undef::.undef::.undef::.undef::.undef::.undef::.undef::.undef::.undef::.undef::.undef::.undef::.undef::.undef::.undef::.undef::.undef::.undef::.undef::.undef::.undef::.undef::.undef::.undef::.undef::.undef::.undef::.undef::.undef::.undef::.undef::.undef::.undef::.undef::.undef::.undef::.undef::.undef::.undef::.undef::.undef::.undef::.undef::.undef::.undef::.undef::.undef::.undef::.undef::.undef::.undef::.undef::.undef::.undef::.undef::.undef::.undef::.undef::.undef::.undef::.undef::.undef::.undef::.undef::.undef::.undef::.undef::.undef::.undef::.undef::.undef::.undef::.undef::.undef::.undef::.undef::.undef::.undef::.undef::.undef::.undef::.undef::.undef::.undef::.undef::.undef::.undef::.undef::.undef::.undef::.undef::.undef::.undef::.undef::.undef::.undef::.undef::(.p (.int .i64 adS))::(.p (.int .i64 adT))::List.replicate 70 .undef,[(6,.box [.p (.int .i64 iQ),.p (.int .i64 iR),.p (.int .i64 iT)]),(19,.arr true gU l_b),(30,.arr true gU x_b)]⟩
def lF (adU:List PV)(adV adW:Int):St:=⟨.undef::.undef::.undef::.undef::.undef::.undef::.undef::.undef::.undef::.undef::.undef::.undef::.undef::.undef::.undef::.undef::.undef::.undef::.undef::.undef::.undef::.undef::.undef::.undef::.undef::.undef::.undef::.undef::.undef::.undef::.undef::.undef::.undef::.undef::.undef::.undef::.undef::.undef::.undef::.undef::.undef::.undef::.undef::.undef::.undef::.undef::.undef::.undef::.undef::.undef::.undef::.undef::.undef::.undef::.undef::.undef::.undef::.undef::.undef::.undef::.undef::.undef::.undef::.undef::.undef::.undef::.undef::.undef::.undef::.undef::.undef::.undef::.undef::.undef::.undef::.undef::.undef::.undef::.undef::.undef::.undef::.undef::.undef::.undef::.undef::.undef::.undef::.undef::.undef::.undef::.undef::.undef::.undef::.undef::.undef::.undef::.undef::.undef::.undef::.undef::.undef::.undef::.undef::.undef::.undef::.undef::.undef::.undef::.undef::.undef::.undef::.undef::.undef::.undef::.undef::.undef::.undef::.undef::.undef::.undef::.undef::.undef::.undef::.undef::.undef::.undef::.undef::.undef::.undef::.undef::.undef::.undef::.undef::.undef::.undef::.undef::.undef::.undef::.undef::.undef::.undef::.undef::.undef::.undef::.undef::.undef::.undef::.undef::.undef::.undef::.undef::.undef::.undef::.undef::.undef::.undef::.undef::.undef::.undef::.undef::.undef::.undef::.undef::.undef::.undef::.undef::.undef::.undef::.undef::.undef::.undef::.undef::.undef::.undef::.undef::.undef::.undef::.undef::.undef::.undef::.undef::.undef::.undef::.undef::.undef::.undef::.undef::.undef::.undef::.undef::.undef::.undef::.undef::.undef::.undef::.undef::.undef::.undef::.undef::.undef::.undef::.undef::.undef::.undef::.undef::.undef::.undef::.undef::.undef::.undef::.undef::.undef::.undef::.undef::.undef::.undef::.undef::.undef::.undef::.undef::.undef::.undef::.undef::.undef::.undef::.undef::.undef::.undef::.undef::.undef::.undef::.undef::.undef::.undef::.undef::.undef::.undef::.undef::.undef::.undef::.undef::.undef::.undef::.undef::.undef::.undef::.undef::.undef::.undef::.undef::.undef::.undef::.undef::.undef::.undef::.undef::.undef::.undef::.undef::.undef::.undef::.undef::.undef::.undef::.undef::.undef::.undef::.undef::.undef::.undef::.undef::.undef::.undef::.undef::.undef::.undef::.undef::.undef::.undef::.undef::.undef::.undef::.undef::(.p (.list true gJ adU))::(.p (.int .i64 adV))::(.p (.int .i64 adW))::List.replicate 51 .undef,[]⟩
theorem e8 (C:aF) (a b:List PV)(sW sZ tq:Int)(s:ByteArray):bn tab C 8 [.p (.list true gJ a),.p (.list true gJ b),.p (.agg [.int .i64 sW,.int .i64 sZ,.int .i64 tq]),.p (.str s)] [] =
 (C 10 [.p (.list true gJ a)] []).bind fun r1 =>
 bif (!(r1.1.headD .undef).pv.toBool) then
  (C 12 [] []).bind fun r2 =>
  some ([.p (.bool ((r2.1.headD .undef).pv.toBool))],[])
 else
  (C 10 [.p (.list true gJ b)] []).bind fun r3 =>
  bif (!(r3.1.headD .undef).pv.toBool) then
   (C 12 [] []).bind fun r4 =>
   some ([.p (.bool ((r4.1.headD .undef).pv.toBool))],[])
  else
   (C 11 [.p (.list true gJ a)] []).bind fun r5 =>
   bif (!(r5.1.headD .undef).pv.toBool) then
    (C 12 [] []).bind fun r6 =>
    some ([.p (.bool ((r6.1.headD .undef).pv.toBool))],[])
   else
    (C 11 [.p (.list true gJ b)] []).bind fun r7 =>
    bif (!(r7.1.headD .undef).pv.toBool) then
     (C 12 [] []).bind fun r8 =>
     some ([.p (.bool ((r8.1.headD .undef).pv.toBool))],[])
    else
     bif (Dt ((a.length:Nat):Int) (4:Int)) then
      (C 12 [] []).bind fun r9 =>
      some ([.p (.bool ((r9.1.headD .undef).pv.toBool))],[])
     else
      bif (Dt ((b.length:Nat):Int) (4:Int)) then
       (C 12 [] []).bind fun r10 =>
       some ([.p (.bool ((r10.1.headD .undef).pv.toBool))],[])
      else
       (C 14 [.p (.list true gJ a)] []).bind fun r11 =>
       bif (!(r11.1.headD .undef).pv.toBool) then
        (C 12 [] []).bind fun r12 =>
        some ([.p (.bool ((r12.1.headD .undef).pv.toBool))],[])
       else
        (C 14 [.p (.list true gJ b)] []).bind fun r13 =>
        bif (!(r13.1.headD .undef).pv.toBool) then
         (C 12 [] []).bind fun X3 =>
         some ([.p (.bool ((X3.1.headD .undef).pv.toBool))],[])
        else
         bif (jo sW (-100:Int)) then
          (C 12 [] []).bind fun r15 =>
          some ([.p (.bool ((r15.1.headD .undef).pv.toBool))],[])
         else
          bif (Dt sW (100:Int)) then
           (C 12 [] []).bind fun r16 =>
           some ([.p (.bool ((r16.1.headD .undef).pv.toBool))],[])
          else
           bif (jo sZ (-100:Int)) then
            (C 12 [] []).bind fun r17 =>
            some ([.p (.bool ((r17.1.headD .undef).pv.toBool))],[])
           else
            bif (Dt sZ (100:Int)) then
             (C 12 [] []).bind fun r18 =>
             some ([.p (.bool ((r18.1.headD .undef).pv.toBool))],[])
            else
             bif (jo tq (-100:Int)) then
              (C 12 [] []).bind fun r19 =>
              some ([.p (.bool ((r19.1.headD .undef).pv.toBool))],[])
             else
              bif (Dt tq (100:Int)) then
               (C 12 [] []).bind fun r20 =>
               some ([.p (.bool ((r20.1.headD .undef).pv.toBool))],[])
              else
               bif (Dt ((s.size:Nat):Int) (500:Int)) then
                (C 12 [] []).bind fun r21 =>
                some ([.p (.bool ((r21.1.headD .undef).pv.toBool))],[])
               else
                (C 17 [.p (.list true gJ a)] []).bind fun r22 =>
                (C 19 [.p (.str ((r22.1.headD .undef).pv.toStr))] []).bind fun r23 =>
                bif ((r22.1.tail.headD .undef).pv.toInt != (0:Int)) then
                 some ([.p (.bool false)],[])
                else
                 bif ((r23.1.tail.tail.headD .undef).pv.toInt != (0:Int)) then
                  some ([.p (.bool false)],[])
                 else
                  bif ((r23.1.tail.headD .undef).pv.toInt != (0:Int)) then
                   some ([.p (.bool false)],[])
                  else
                   (C 21 [.p (.list true gJ ((((r23.1.headD .undef).ak).drop 0).take ((r23.1.headD .undef).ak.length))),.p (.list true gJ a)] []).bind fun r24 =>
                   bif (!(r24.1.headD .undef).pv.toBool) then
                    some ([.p (.bool false)],[])
                   else
                    (C 19 [.p (.str s)] []).bind fun r25 =>
                    bif ((r25.1.tail.tail.headD .undef).pv.toInt==(0:Int)) then
                     (C 17 [.p (.list true gJ ((((r25.1.headD .undef).ak).drop 0).take ((r25.1.headD .undef).ak.length)))] []).bind fun r26 =>
                     bif (!(((r26.1.headD .undef).pv.toStr).toList==s.toList)) then
                      some ([.p (.bool false)],[])
                     else
                      bif ((r26.1.tail.headD .undef).pv.toInt != (0:Int)) then
                       some ([.p (.bool false)],[])
                      else
                       (C 13 [.p (.list true gJ a)] []).bind fun r27 =>
                       (C 13 [.p (.list true gJ b)] []).bind fun r28 =>
                       bif ((r27.1.tail.headD .undef).pv.toInt != (0:Int)) then
                        (C 12 [] []).bind fun r29 =>
                        some ([.p (.bool ((r29.1.headD .undef).pv.toBool))],[])
                       else
                        bif ((r28.1.tail.headD .undef).pv.toInt != (0:Int)) then
                         (C 12 [] []).bind fun r30 =>
                         some ([.p (.bool ((r30.1.headD .undef).pv.toBool))],[])
                        else
                         bif (Qr a.length 2147483648) then bif (Qr (a.length+b.length) 2147483648) then(C 13 [.p (.list true gJ (((((a.drop 0).take a.length)++b).drop 0).take (a.length+b.length)))] []).bind fun r31 =>
                         bif ((r31.1.tail.headD .undef).pv.toInt==(0:Int)) then
                          L tab C 8 [] [.lp [1,1,1,1,1,1,1,1,1,1,0,1,0,1,0,1,0]] (rC a 0 ((r27.1.headD .undef).ak.length) 0 ((r28.1.headD .undef).ak.length) 0 0 0 ((r31.1.headD .undef).ak.length) (((r31.1.headD .undef).ak.length:Nat):Int) 0 sW sZ tq ((r27.1.headD .undef).ak) ((r28.1.headD .undef).ak) ((r31.1.headD .undef).ak))
                         else
                          bif ((r31.1.tail.headD .undef).pv.toInt != (7:Int)) then
                           some ([.p (.bool false)],[])
                          else
                           bif (leI (IntKind.i64.wrap ((((r27.1.headD .undef).ak.length:Nat):Int)+(((r28.1.headD .undef).ak.length:Nat):Int))) (4096:Int)) then
                            some ([.p (.bool false)],[])
                           else
                            (C 22 [.p (.list true gJ a),.p (.agg [.int .i64 sW,.int .i64 sZ,.int .i64 tq])] []).bind fun r32 =>
                            bif ((r32.1.tail.headD .undef).pv.toInt==(0:Int)) then
                             (C 13 [.p (.list true gJ ((((r32.1.headD .undef).ak).drop 0).take ((r32.1.headD .undef).ak.length)))] []).bind fun r33 =>
                             bif ((r33.1.tail.headD .undef).pv.toInt==(0:Int)) then
                              bif ((((r33.1.headD .undef).ak.length:Nat):Int) != (((r27.1.headD .undef).ak.length:Nat):Int)) then
                               some ([.p (.bool false)],[])
                              else
                               L tab C 8 [] [.lp [1,1,1,1,1,1,1,1,1,1,1,0,1,1,0,1,1,0,1,1,0]] (nR a 0 ((r27.1.headD .undef).ak.length) 0 ((r33.1.headD .undef).ak.length) (((r33.1.headD .undef).ak.length:Nat):Int) 0 sW sZ tq ((r27.1.headD .undef).ak) ((r33.1.headD .undef).ak))
                             else
                              bif ((r33.1.tail.headD .undef).pv.toInt != (3:Int)) then
                               some ([.p (.bool false)],[])
                              else
                               L tab C 8 [] [.lp [1,1,1,1,1,1,1,1,1,1,1,1,0,1,0]] (lF a ((a.length:Nat):Int) 0)
                            else
                             L tab C 8 [] [.lp [1,1,1,1,1,1,1,1,1,1,1,1,0,1,0]] (lF a ((a.length:Nat):Int) 0) else none else none
                    else
                     (C 13 [.p (.list true gJ a)] []).bind fun r34 =>
                     (C 13 [.p (.list true gJ b)] []).bind fun r35 =>
                     bif ((r34.1.tail.headD .undef).pv.toInt != (0:Int)) then
                      (C 12 [] []).bind fun r36 =>
                      some ([.p (.bool ((r36.1.headD .undef).pv.toBool))],[])
                     else
                      bif ((r35.1.tail.headD .undef).pv.toInt != (0:Int)) then
                       (C 12 [] []).bind fun r37 =>
                       some ([.p (.bool ((r37.1.headD .undef).pv.toBool))],[])
                      else
                       bif (Qr a.length 2147483648) then bif (Qr (a.length+b.length) 2147483648) then(C 13 [.p (.list true gJ (((((a.drop 0).take a.length)++b).drop 0).take (a.length+b.length)))] []).bind fun r38 =>
                       bif ((r38.1.tail.headD .undef).pv.toInt==(0:Int)) then
                        L tab C 8 [] [.lp [1,1,1,1,1,1,1,1,1,1,0,1,0,1,0,1,0]] (rC a 0 ((r34.1.headD .undef).ak.length) 0 ((r35.1.headD .undef).ak.length) 0 0 0 ((r38.1.headD .undef).ak.length) (((r38.1.headD .undef).ak.length:Nat):Int) 0 sW sZ tq ((r34.1.headD .undef).ak) ((r35.1.headD .undef).ak) ((r38.1.headD .undef).ak))
                       else
                        bif ((r38.1.tail.headD .undef).pv.toInt != (7:Int)) then
                         some ([.p (.bool false)],[])
                        else
                         bif (leI (IntKind.i64.wrap ((((r34.1.headD .undef).ak.length:Nat):Int)+(((r35.1.headD .undef).ak.length:Nat):Int))) (4096:Int)) then
                          some ([.p (.bool false)],[])
                         else
                          (C 22 [.p (.list true gJ a),.p (.agg [.int .i64 sW,.int .i64 sZ,.int .i64 tq])] []).bind fun r39 =>
                          bif ((r39.1.tail.headD .undef).pv.toInt==(0:Int)) then
                           (C 13 [.p (.list true gJ ((((r39.1.headD .undef).ak).drop 0).take ((r39.1.headD .undef).ak.length)))] []).bind fun r40 =>
                           bif ((r40.1.tail.headD .undef).pv.toInt==(0:Int)) then
                            bif ((((r40.1.headD .undef).ak.length:Nat):Int) != (((r34.1.headD .undef).ak.length:Nat):Int)) then
                             some ([.p (.bool false)],[])
                            else
                             L tab C 8 [] [.lp [1,1,1,1,1,1,1,1,1,1,1,0,1,1,0,1,1,0,1,1,0]] (nR a 0 ((r34.1.headD .undef).ak.length) 0 ((r40.1.headD .undef).ak.length) (((r40.1.headD .undef).ak.length:Nat):Int) 0 sW sZ tq ((r34.1.headD .undef).ak) ((r40.1.headD .undef).ak))
                           else
                            bif ((r40.1.tail.headD .undef).pv.toInt != (3:Int)) then
                             some ([.p (.bool false)],[])
                            else
                             L tab C 8 [] [.lp [1,1,1,1,1,1,1,1,1,1,1,1,0,1,0]] (lF a ((a.length:Nat):Int) 0)
                          else
                           L tab C 8 [] [.lp [1,1,1,1,1,1,1,1,1,1,1,1,0,1,0]] (lF a ((a.length:Nat):Int) 0) else none else none:=by kernel_rfl
theorem e9 (C:aF) (a b:List PV):bn tab C 9 [.p (.list true gJ a),.p (.list true gJ b)] [] =
 (C 10 [.p (.list true gJ a)] []).bind fun r1 =>
 bif (!(r1.1.headD .undef).pv.toBool) then
  (C 12 [] []).bind fun r2 =>
  some ([.p (.bool ((r2.1.headD .undef).pv.toBool))],[])
 else
  (C 10 [.p (.list true gJ b)] []).bind fun r3 =>
  bif (!(r3.1.headD .undef).pv.toBool) then
   (C 12 [] []).bind fun r4 =>
   some ([.p (.bool ((r4.1.headD .undef).pv.toBool))],[])
  else
   (C 28 [.p (.list true gJ a)] []).bind fun r5 =>
   (C 14 [.p (.list true gJ a)] []).bind fun r6 =>
   bif ((r5.1.headD .undef).pv.toBool==(r6.1.headD .undef).pv.toBool) then
    (C 29 [.p (.list true gJ a),.p (.list true gJ b)] []).bind fun r7 =>
    (C 21 [.p (.list true gJ a),.p (.list true gJ b)] []).bind fun r8 =>
    bif ((r7.1.headD .undef).pv.toBool==(r8.1.headD .undef).pv.toBool) then
     (C 29 [.p (.list true gJ a),.p (.list true gJ a)] []).bind fun r9 =>
     bif (r9.1.headD .undef).pv.toBool then
      (C 12 [] []).bind fun r10 =>
      some ([.p (.bool ((r10.1.headD .undef).pv.toBool))],[])
     else
      some ([.p (.bool false)],[])
    else
     some ([.p (.bool false)],[])
   else
    some ([.p (.bool false)],[]):=by kernel_rfl
def uM (f' En:List PV)(Nh qE:Int):St:=⟨(.p (.list true gJ f'))::.undef::.undef::.undef::.undef::(.p (.list true gJ En))::(.p (.int .i64 Nh))::(.p (.int .i64 qE))::List.replicate 27 .undef,[]⟩
theorem e10 (C:aF) (f:List PV):bn tab C 10 [.p (.list true gJ f)] [] =
 L tab C 10 [] [.lp [1,0,1,0]] (uM f f ((f.length:Nat):Int) 0):=by kernel_rfl
theorem xJ (C:aF) (f' En:List PV)(Nh qE:Int):R tab C 10 [] [.lp [1,0,1,0]] (uM f' En Nh qE) =
 bif (jo qE Nh) then
  bif ((leI (0:Int) qE)&&(jo qE ((En.length:Nat):Int))) then bif (Dt (((((En.getD qE.toNat .nil).cell 1).toList).length:Nat):Int) (8:Int)) then
   bif (Dt qE (0:Int)) then
    some ([.p (.bool false)],[])
   else
    bif (Dt (((((En.getD qE.toNat .nil).cell 1).toList).length:Nat):Int) (201:Int)) then
     some ([.p (.bool false)],[])
    else
     L tab C 10 [] [.lp [1,0,1,0]] (uM f' En Nh (IntKind.i64.wrap (qE+(1:Int))))
  else
   L tab C 10 [] [.lp [1,0,1,0]] (uM f' En Nh (IntKind.i64.wrap (qE+(1:Int)))) else none
 else
  bif (leI ((f'.length:Nat):Int) (6:Int)) then
   some ([.p (.bool true)],[])
  else
   some ([.p (.bool (((f'.length:Nat):Int)==(51:Int)))],[]):=by kernel_rfl
def Ya (En:List PV)(Nh qE:Int):St:=⟨.undef::.undef::.undef::.undef::.undef::(.p (.list true gJ En))::(.p (.int .i64 Nh))::(.p (.int .i64 qE))::List.replicate 22 .undef,[]⟩
theorem e11 (C:aF) (f:List PV):bn tab C 11 [.p (.list true gJ f)] [] =
 L tab C 11 [] [.lp [1,0,1,0]] (Ya f ((f.length:Nat):Int) 0):=by kernel_rfl
def jC (Jh Ji c_o c_l:Nat)(i':Int)(Jj c_b:List PV):St:=⟨.undef::.undef::.undef::(.slice 3 6 Jh Ji)::.undef::.undef::.undef::.undef::(.slice 8 3 c_o c_l)::.undef::(.p (.int .i64 i'))::List.replicate 192 .undef,[(3,.arr true gJ Jj),(8,.arr true gU c_b)]⟩
theorem e12 (C:aF) :bn tab C 12 [] [] =
 (C 25 [.p (.int .i64 3),.p (.int .i64 0),.p (.int .i64 0)] []).bind fun r1 =>
 (C 25 [.p (.int .i64 1),.p (.int .i64 0),.p (.int .i64 0)] []).bind fun r2 =>
 (C 25 [.p (.int .i64 3),.p (.int .i64 0),.p (.int .i64 0)] []).bind fun r3 =>
 (C 25 [.p (.int .i64 0),.p (.int .i64 0),.p (.int .i64 0)] []).bind fun r4 =>
 (C 25 [.p (.int .i64 3),.p (.int .i64 0),.p (.int .i64 0)] []).bind fun r5 =>
 (C 25 [.p (.int .i64 0),.p (.int .i64 0),.p (.int .i64 0)] []).bind fun r6 =>
 (C 13 [.p (.list true gJ [.agg [.int .i64 1,.list true gU [.agg [.int .i64 (((r1.1.headD .undef).pv.cell 0).toInt),.int .i64 (((r1.1.headD .undef).pv.cell 1).toInt),.int .i64 (((r1.1.headD .undef).pv.cell 2).toInt)],.agg [.int .i64 (((r2.1.headD .undef).pv.cell 0).toInt),.int .i64 (((r2.1.headD .undef).pv.cell 1).toInt),.int .i64 (((r2.1.headD .undef).pv.cell 2).toInt)],.agg [.int .i64 (((r3.1.headD .undef).pv.cell 0).toInt),.int .i64 (((r3.1.headD .undef).pv.cell 1).toInt),.int .i64 (((r3.1.headD .undef).pv.cell 2).toInt)]],.int .i64 0,.int .i64 0,.int .i64 0,.int .i64 0]])] []).bind fun r7 =>
 (C 13 [.p (.list true gJ [.agg [.int .i64 2,.list true gU [.agg [.int .i64 (((r4.1.headD .undef).pv.cell 0).toInt),.int .i64 (((r4.1.headD .undef).pv.cell 1).toInt),.int .i64 (((r4.1.headD .undef).pv.cell 2).toInt)],.agg [.int .i64 (((r5.1.headD .undef).pv.cell 0).toInt),.int .i64 (((r5.1.headD .undef).pv.cell 1).toInt),.int .i64 (((r5.1.headD .undef).pv.cell 2).toInt)]],.int .i64 2,.int .i64 0,.int .i64 0,.int .i64 0]])] []).bind fun r8 =>
 (C 13 [.p (.list true gJ [.agg [.int .i64 4,.list true gU [.agg [.int .i64 (((r6.1.headD .undef).pv.cell 0).toInt),.int .i64 (((r6.1.headD .undef).pv.cell 1).toInt),.int .i64 (((r6.1.headD .undef).pv.cell 2).toInt)]],.int .i64 0,.int .i64 1,.int .i64 10,.int .i64 1]])] []).bind fun r9 =>
 (C 25 [.p (.int .i64 1),.p (.int .i64 0),.p (.int .i64 0)] []).bind fun r10 =>
 (C 25 [.p (.int .i64 3),.p (.int .i64 0),.p (.int .i64 0)] []).bind fun r11 =>
 (C 16 [.p (.list true gU ((((r7.1.headD .undef).ak).drop 0).take ((r7.1.headD .undef).ak.length))),.p (.list true gU [.agg [.int .i64 (((r10.1.headD .undef).pv.cell 0).toInt),.int .i64 (((r10.1.headD .undef).pv.cell 1).toInt),.int .i64 (((r10.1.headD .undef).pv.cell 2).toInt)],.agg [.int .i64 (((r11.1.headD .undef).pv.cell 0).toInt),.int .i64 (((r11.1.headD .undef).pv.cell 1).toInt),.int .i64 (((r11.1.headD .undef).pv.cell 2).toInt)]])] []).bind fun r12 =>
 bif (!(r12.1.headD .undef).pv.toBool) then
  some ([.p (.bool false)],[])
 else
  bif ((r7.1.tail.headD .undef).pv.toInt != (0:Int)) then
   some ([.p (.bool false)],[])
  else
   (C 25 [.p (.int .i64 0),.p (.int .i64 0),.p (.int .i64 0)] []).bind fun r13 =>
   (C 25 [.p (.int .i64 2),.p (.int .i64 0),.p (.int .i64 0)] []).bind fun X3 =>
   (C 25 [.p (.int .i64 3),.p (.int .i64 0),.p (.int .i64 0)] []).bind fun r15 =>
   (C 16 [.p (.list true gU ((((r8.1.headD .undef).ak).drop 0).take ((r8.1.headD .undef).ak.length))),.p (.list true gU [.agg [.int .i64 (((r13.1.headD .undef).pv.cell 0).toInt),.int .i64 (((r13.1.headD .undef).pv.cell 1).toInt),.int .i64 (((r13.1.headD .undef).pv.cell 2).toInt)],.agg [.int .i64 (((X3.1.headD .undef).pv.cell 0).toInt),.int .i64 (((X3.1.headD .undef).pv.cell 1).toInt),.int .i64 (((X3.1.headD .undef).pv.cell 2).toInt)],.agg [.int .i64 (((r15.1.headD .undef).pv.cell 0).toInt),.int .i64 (((r15.1.headD .undef).pv.cell 1).toInt),.int .i64 (((r15.1.headD .undef).pv.cell 2).toInt)]])] []).bind fun r16 =>
   bif (!(r16.1.headD .undef).pv.toBool) then
    some ([.p (.bool false)],[])
   else
    bif ((r8.1.tail.headD .undef).pv.toInt != (0:Int)) then
     some ([.p (.bool false)],[])
    else
     bif ((((r9.1.headD .undef).ak.length:Nat):Int) != (9:Int)) then
      some ([.p (.bool false)],[])
     else
      bif ((r9.1.tail.headD .undef).pv.toInt != (0:Int)) then
       some ([.p (.bool false)],[])
      else
       L tab C 12 [] [.lp [1,1,1,1,1,1,1,1,0,1,0]] (jC 0 1 0 ((r9.1.headD .undef).ak.length) 0 [.agg [.int .i64 4,.list true gU [.agg [.int .i64 (((r6.1.headD .undef).pv.cell 0).toInt),.int .i64 (((r6.1.headD .undef).pv.cell 1).toInt),.int .i64 (((r6.1.headD .undef).pv.cell 2).toInt)]],.int .i64 0,.int .i64 1,.int .i64 10,.int .i64 1]] ((r9.1.headD .undef).ak)):=by kernel_rfl
theorem zu (C:aF) (Jh Ji c_o c_l:Nat)(i':Int)(Jj c_b:List PV):R tab C 12 [] [.lp [1,1,1,1,1,1,1,1,0,1,0]] (jC Jh Ji c_o c_l i' Jj c_b) =
 bif (jo i' (9:Int)) then
  bif ((leI (0:Int) i')&&(jo i' (c_l:Int))) then(C 25 [.p (.int .i64 (IntKind.i64.wrap ((IntKind.i64.wrap ((10:Int)*(IntKind.i64.wrap (i'.tdiv (3:Int)))))-(10:Int)))),.p (.int .i64 0),.p (.int .i64 (IntKind.i64.wrap ((IntKind.i64.wrap ((10:Int)*(i'.tmod (3:Int))))-(10:Int))))] []).bind fun r1 =>
  bif (!((((c_b.getD (c_o+i'.toNat) .nil).cell 0).toInt==((r1.1.headD .undef).pv.cell 0).toInt)&&((((c_b.getD (c_o+i'.toNat) .nil).cell 1).toInt==((r1.1.headD .undef).pv.cell 1).toInt)&&((((c_b.getD (c_o+i'.toNat) .nil).cell 2).toInt==((r1.1.headD .undef).pv.cell 2).toInt)&&true)))) then
   some ([.p (.bool false)],[])
  else
   L tab C 12 [] [.lp [1,1,1,1,1,1,1,1,0,1,0]] (jC Jh Ji c_o c_l (IntKind.i64.wrap (i'+(1:Int))) Jj c_b) else none
 else
  (C 17 [.p (.list true gJ ((Jj.drop Jh).take Ji))] []).bind fun r2 =>
  bif (!(((r2.1.headD .undef).pv.toStr).toList==(⟨#[114,105,110,103,32,120,122,32,49,32,49,48,32,48,32,48,32,48,10]⟩:ByteArray).toList)) then
   some ([.p (.bool false)],[])
  else
   bif ((r2.1.tail.headD .undef).pv.toInt != (0:Int)) then
    some ([.p (.bool false)],[])
   else
    (C 19 [.p (.str ⟨#[100,111,116,115,32,49,32,50,32,51]⟩)] []).bind fun r3 =>
    (C 19 [.p (.str ⟨#[100,111,116,115,32,49,32,50,10]⟩)] []).bind fun r4 =>
    (C 19 [.p (.str ⟨#[]⟩)] []).bind fun r5 =>
    (C 19 [.p (.str ⟨#[108,111,111,112,32,50,32,48,32,48,32,48,32,49,32,48,32,48,10]⟩)] []).bind fun r6 =>
    bif ((r3.1.tail.headD .undef).pv.toInt != (1:Int)) then
     some ([.p (.bool false)],[])
    else
     bif ((r3.1.tail.tail.headD .undef).pv.toInt != (6:Int)) then
      some ([.p (.bool false)],[])
     else
      bif ((r4.1.tail.headD .undef).pv.toInt != (1:Int)) then
       some ([.p (.bool false)],[])
      else
       bif ((r4.1.tail.tail.headD .undef).pv.toInt != (6:Int)) then
        some ([.p (.bool false)],[])
       else
        bif ((((r5.1.headD .undef).ak.length:Nat):Int) != (0:Int)) then
         some ([.p (.bool false)],[])
        else
         bif ((r5.1.tail.headD .undef).pv.toInt != (0:Int)) then
          some ([.p (.bool false)],[])
         else
          bif ((r5.1.tail.tail.headD .undef).pv.toInt != (0:Int)) then
           some ([.p (.bool false)],[])
          else
           bif ((r6.1.tail.headD .undef).pv.toInt != (1:Int)) then
            some ([.p (.bool false)],[])
           else
            bif ((r6.1.tail.tail.headD .undef).pv.toInt != (6:Int)) then
             some ([.p (.bool false)],[])
            else
             (C 25 [.p (.int .i64 1),.p (.int .i64 2),.p (.int .i64 3)] []).bind fun r7 =>
             (C 25 [.p (.int .i64 1),.p (.int .i64 (-1)),.p (.int .i64 0)] []).bind fun r8 =>
             (C 22 [.p (.list true gJ [.agg [.int .i64 1,.list true gU [.agg [.int .i64 (((r7.1.headD .undef).pv.cell 0).toInt),.int .i64 (((r7.1.headD .undef).pv.cell 1).toInt),.int .i64 (((r7.1.headD .undef).pv.cell 2).toInt)]],.int .i64 0,.int .i64 0,.int .i64 0,.int .i64 0]]),.p (.agg [.int .i64 (((r8.1.headD .undef).pv.cell 0).toInt),.int .i64 (((r8.1.headD .undef).pv.cell 1).toInt),.int .i64 (((r8.1.headD .undef).pv.cell 2).toInt)])] []).bind fun r9 =>
             (C 13 [.p (.list true gJ ((((r9.1.headD .undef).ak).drop 0).take ((r9.1.headD .undef).ak.length)))] []).bind fun r10 =>
             bif ((r9.1.tail.headD .undef).pv.toInt==(0:Int)) then
              bif ((r10.1.tail.headD .undef).pv.toInt==(0:Int)) then
               (C 25 [.p (.int .i64 2),.p (.int .i64 1),.p (.int .i64 3)] []).bind fun r11 =>
               (C 21 [.p (.list true gJ ((((r9.1.headD .undef).ak).drop 0).take ((r9.1.headD .undef).ak.length))),.p (.list true gJ [.agg [.int .i64 1,.list true gU [.agg [.int .i64 (((r11.1.headD .undef).pv.cell 0).toInt),.int .i64 (((r11.1.headD .undef).pv.cell 1).toInt),.int .i64 (((r11.1.headD .undef).pv.cell 2).toInt)]],.int .i64 0,.int .i64 0,.int .i64 0,.int .i64 0]])] []).bind fun r12 =>
               bif (r12.1.headD .undef).pv.toBool then
                (C 25 [.p (.int .i64 2),.p (.int .i64 1),.p (.int .i64 3)] []).bind fun r13 =>
                (C 16 [.p (.list true gU ((((r10.1.headD .undef).ak).drop 0).take ((r10.1.headD .undef).ak.length))),.p (.list true gU [.agg [.int .i64 (((r13.1.headD .undef).pv.cell 0).toInt),.int .i64 (((r13.1.headD .undef).pv.cell 1).toInt),.int .i64 (((r13.1.headD .undef).pv.cell 2).toInt)]])] []).bind fun X3 =>
                some ([.p (.bool ((X3.1.headD .undef).pv.toBool))],[])
               else
                some ([.p (.bool false)],[])
              else
               some ([.p (.bool false)],[])
             else
              some ([.p (.bool false)],[]):=by kernel_rfl
def uN (dJ:List PV)(Du uO vY:Int) (pJ:List (PV × PV)):St:=⟨.undef::.undef::(.ptr 2 0 0)::(.ptr 3 0 0)::(.ptr 4 0 0)::.undef::.undef::.undef::.undef::.undef::.undef::.undef::(.p (.list true gJ dJ))::(.p (.int .i64 Du))::(.p (.int .i64 uO))::List.replicate 18 .undef,[(2,.box [.p (.nil)]),(3,.box [.p (.int .i64 vY)]),(11,.mp 58 pJ),(4,.box [.mref 11])]⟩
def eG (dJ:List PV)(Du uO:Int) (t19:PV) (vY:Int) (pJ:List (PV × PV)):St:=⟨.undef::.undef::(.ptr 2 0 0)::(.ptr 3 0 0)::(.ptr 4 0 0)::.undef::.undef::.undef::.undef::.undef::.undef::.undef::(.p (.list true gJ dJ))::(.p (.int .i64 Du))::(.p (.int .i64 uO))::.undef::.undef::.undef::.undef::(.p t19)::List.replicate 13 .undef,[(2,.box [.p (.nil)]),(3,.box [.p (.int .i64 vY)]),(11,.mp 58 pJ),(4,.box [.mref 11])]⟩
theorem e13 (C:aF) (f:List PV):bn tab C 13 [.p (.list true gJ f)] [] =
 (C 28 [.p (.list true gJ f)] []).bind fun r1 =>
 bif (!(r1.1.headD .undef).pv.toBool) then
  some ([.fresh true gU [],.p (.int .i64 2)],[])
 else
  L tab C 13 [] [.lp [1,1,1,0,1,0]] (uN f ((f.length:Nat):Int) 0 0 ([]:List (PV × PV))):=by kernel_rfl
theorem Jk (C:aF) (dJ:List PV)(Du uO vY:Int) (pJ:List (PV × PV)):R tab C 13 [] [.lp [1,1,1,0,1,0]] (uN dJ Du uO vY pJ) =
 bif (jo uO Du) then
  bif ((leI (0:Int) uO)&&(jo uO ((dJ.length:Nat):Int))) then(C 30 [.p (.agg [.int .i64 (((dJ.getD uO.toNat .nil).cell 0).toInt),.list true gU (((dJ.getD uO.toNat .nil).cell 1).toList),.int .i64 (((dJ.getD uO.toNat .nil).cell 2).toInt),.int .i64 (((dJ.getD uO.toNat .nil).cell 3).toInt),.int .i64 (((dJ.getD uO.toNat .nil).cell 4).toInt),.int .i64 (((dJ.getD uO.toNat .nil).cell 5).toInt)])] []).bind fun r1 =>
  bif (PV.isFn 92 [(true,[.slice true gU])] ((r1.1.headD .undef).pv)) then
   (C 92 [.sJ,.p (.ref [.list true gU ((((r1.1.headD .undef).pv.cap 0).dL 0).toList)])] [.log true []]).bind fun r2 =>
   L tab C 13 [] [.lp [1,1,1,0,1,0],.rg [1,1,0,0,1,1,0] [(true,gU)] (tu r2.2)] (eG dJ Du uO (.fn 92 [.ref [.list true gU ((((r1.1.headD .undef).pv.cap 0).dL 0).toList)]]) vY pJ)
  else
   bif (PV.isFn 93 [(true,gJ)] ((r1.1.headD .undef).pv)) then
    (C 93 [.sJ,.p (.ref [.int .i64 ((((r1.1.headD .undef).pv.cap 0).dL 0).toInt),.list true gU ((((r1.1.headD .undef).pv.cap 0).dL 1).toList),.int .i64 ((((r1.1.headD .undef).pv.cap 0).dL 2).toInt),.int .i64 ((((r1.1.headD .undef).pv.cap 0).dL 3).toInt),.int .i64 ((((r1.1.headD .undef).pv.cap 0).dL 4).toInt),.int .i64 ((((r1.1.headD .undef).pv.cap 0).dL 5).toInt)])] [.log true []]).bind fun r3 =>
    L tab C 13 [] [.lp [1,1,1,0,1,0],.rg [1,1,0,0,1,1,0] [(true,gU)] (tu r3.2)] (eG dJ Du uO (.fn 93 [.ref [.int .i64 ((((r1.1.headD .undef).pv.cap 0).dL 0).toInt),.list true gU ((((r1.1.headD .undef).pv.cap 0).dL 1).toList),.int .i64 ((((r1.1.headD .undef).pv.cap 0).dL 2).toInt),.int .i64 ((((r1.1.headD .undef).pv.cap 0).dL 3).toInt),.int .i64 ((((r1.1.headD .undef).pv.cap 0).dL 4).toInt),.int .i64 ((((r1.1.headD .undef).pv.cap 0).dL 5).toInt)]]) vY pJ)
   else
    bif (PV.isFn 95 [(true,gJ)] ((r1.1.headD .undef).pv)) then(C 95 [.sJ,.p (.ref [.int .i64 ((((r1.1.headD .undef).pv.cap 0).dL 0).toInt),.list true gU ((((r1.1.headD .undef).pv.cap 0).dL 1).toList),.int .i64 ((((r1.1.headD .undef).pv.cap 0).dL 2).toInt),.int .i64 ((((r1.1.headD .undef).pv.cap 0).dL 3).toInt),.int .i64 ((((r1.1.headD .undef).pv.cap 0).dL 4).toInt),.int .i64 ((((r1.1.headD .undef).pv.cap 0).dL 5).toInt)])] [.log true []]).bind fun r4 =>
    L tab C 13 [] [.lp [1,1,1,0,1,0],.rg [1,1,0,0,1,1,0] [(true,gU)] (tu r4.2)] (eG dJ Du uO (.fn 95 [.ref [.int .i64 ((((r1.1.headD .undef).pv.cap 0).dL 0).toInt),.list true gU ((((r1.1.headD .undef).pv.cap 0).dL 1).toList),.int .i64 ((((r1.1.headD .undef).pv.cap 0).dL 2).toInt),.int .i64 ((((r1.1.headD .undef).pv.cap 0).dL 3).toInt),.int .i64 ((((r1.1.headD .undef).pv.cap 0).dL 4).toInt),.int .i64 ((((r1.1.headD .undef).pv.cap 0).dL 5).toInt)]]) vY pJ) else none else none
 else
  bif (Dt ((pJ.length:Nat):Int) (4096:Int)) then
   some ([.fresh true gU [],.p (.int .i64 7)],[])
  else
   (C 33 [.p (.zX (pJ.map (fun x=>x.1)) (pJ.map (fun x=>x.2)))] []).bind fun r5 =>
   (C 32 [.p (.fn 64 [.ref [(((r5.1.headD .undef).pv.cap 0).dL 0)]]),.p (.fn 34 [])] []).bind fun r6 =>
   some ([.fresh true gU ((((r6.1.headD .undef).ak).drop 0).take ((r6.1.headD .undef).ak.length)),.p (.int .i64 0)],[]):=by kernel_rfl
theorem yJ (C:aF) (dJ:List PV)(Du uO:Int) (t19:PV) (vY:Int) (pJ:List (PV × PV)):L tab C 13 [] [.lp [1,1,1,0,1,0],.rg [1,1,0,0,1,1,0] [(true,gU)] []] (eG dJ Du uO t19 vY pJ) =
 L tab C 13 [] [.lp [1,1,1,0,1,0]] (uN dJ Du (IntKind.i64.wrap (uO+(1:Int))) vY pJ):=by kernel_rfl
theorem xK (C:aF) (dJ:List PV)(Du uO:Int) (t19:PV) (vY:Int) (pJ:List (PV × PV)) (Yb Yc Yd:Int)(ys:List PV):L tab C 13 [] [.lp [1,1,1,0,1,0],.rg [1,1,0,0,1,1,0] [(true,gU)] (.agg [.agg [.int .i64 Yb,.int .i64 Yc,.int .i64 Yd]]::ys)] (eG dJ Du uO t19 vY pJ) =
 (C 31 [.p (.agg [.int .i64 Yb,.int .i64 Yc,.int .i64 Yd])] []).bind fun r1 =>
 bif (!(r1.1.headD .undef).pv.toBool) then
  some ([.fresh true gU [],.p (.int .i64 3)],[])
 else
  bif (oq tab 43 [.int .i64 Yb,.int .i64 Yc,.int .i64 Yd] pJ).isSome then L tab C 13 [] [.lp [1,1,1,0,1,0],.rg [1,1,0,0,1,1,0] [(true,gU)] ys] (eG dJ Du uO t19 vY (yK pJ (PV.agg [.int .i64 Yb,.int .i64 Yc,.int .i64 Yd]) (PV.bool true) ((oq tab 43 [.int .i64 Yb,.int .i64 Yc,.int .i64 Yd] pJ).getD none))) else none:=by kernel_rfl
def Eo (f':List PV)(i':Int):St:=⟨(.p (.list true gJ f'))::.undef::.undef::(.p (.int .i64 i'))::List.replicate 15 .undef,[]⟩
theorem e14 (C:aF) (f:List PV):bn tab C 14 [.p (.list true gJ f)] [] =
 L tab C 14 [] [.lp [1,0,1,0]] (Eo f 0):=by kernel_rfl
theorem Qs (C:aF) (f':List PV)(i':Int):R tab C 14 [] [.lp [1,0,1,0]] (Eo f' i') =
 bif (jo i' ((f'.length:Nat):Int)) then
  bif ((leI (0:Int) i')&&(jo i' ((f'.length:Nat):Int))) then(C 35 [.p (.agg [.int .i64 (((f'.getD i'.toNat .nil).cell 0).toInt),.list true gU (((f'.getD i'.toNat .nil).cell 1).toList),.int .i64 (((f'.getD i'.toNat .nil).cell 2).toInt),.int .i64 (((f'.getD i'.toNat .nil).cell 3).toInt),.int .i64 (((f'.getD i'.toNat .nil).cell 4).toInt),.int .i64 (((f'.getD i'.toNat .nil).cell 5).toInt)])] []).bind fun r1 =>
  bif (!(r1.1.headD .undef).pv.toBool) then
   some ([.p (.bool false)],[])
  else
   L tab C 14 [] [.lp [1,0,1,0]] (Eo f' (IntKind.i64.wrap (i'+(1:Int)))) else none
 else
  some ([.p (.bool (leI ((f'.length:Nat):Int) (50:Int)))],[]):=by kernel_rfl
def BA (a' b':List PV)(i':Int):St:=⟨(.p (.list true gU a'))::(.p (.list true gU b'))::.undef::.undef::.undef::(.p (.int .i64 i'))::List.replicate 20 .undef,[]⟩
theorem e16 (C:aF) (a b:List PV):bn tab C 16 [.p (.list true gU a),.p (.list true gU b)] [] =
 bif (((a.length:Nat):Int) != ((b.length:Nat):Int)) then
  some ([.p (.bool false)],[])
 else
  L tab C 16 [] [.lp [1,1,0,1,0]] (BA a b 0):=by kernel_rfl
theorem Nj (C:aF) (a' b':List PV)(i':Int):R tab C 16 [] [.lp [1,1,0,1,0]] (BA a' b' i') =
 bif (jo i' ((a'.length:Nat):Int)) then
  bif ((leI (0:Int) i')&&(jo i' ((a'.length:Nat):Int))) then bif ((leI (0:Int) i')&&(jo i' ((b'.length:Nat):Int))) then bif (!((((a'.getD i'.toNat .nil).cell 0).toInt==((b'.getD i'.toNat .nil).cell 0).toInt)&&((((a'.getD i'.toNat .nil).cell 1).toInt==((b'.getD i'.toNat .nil).cell 1).toInt)&&((((a'.getD i'.toNat .nil).cell 2).toInt==((b'.getD i'.toNat .nil).cell 2).toInt)&&true)))) then
   some ([.p (.bool false)],[])
  else
   L tab C 16 [] [.lp [1,1,0,1,0]] (BA a' b' (IntKind.i64.wrap (i'+(1:Int)))) else none else none
 else
  some ([.p (.bool true)],[]):=by kernel_rfl
def Jl (iC:List PV)(jR dJ:Int):St:=⟨.undef::.undef::.undef::.undef::(.ptr 4 0 0)::.undef::.undef::.undef::.undef::.undef::(.p (.list true gJ iC))::(.p (.int .i64 jR))::(.p (.int .i64 dJ))::List.replicate 9 .undef,[(4,.tb 72 (.p (.zS)) (.p (.nil)))]⟩
def qU (iC:List PV)(jR dJ:Int)(G6:List PV):St:=⟨.undef::.undef::.undef::.undef::(.ptr 4 0 0)::.undef::.undef::.undef::.undef::.undef::(.p (.list true gJ iC))::(.p (.int .i64 jR))::(.p (.int .i64 dJ))::List.replicate 9 .undef,[(4,.tb 72 (.ptr 4 0 0) (.mref 19)),(19,.br 5 G6)]⟩
theorem e17 (C:aF) (f:List PV):bn tab C 17 [.p (.list true gJ f)] [] =
 (C 28 [.p (.list true gJ f)] []).bind fun r1 =>
 bif (!(r1.1.headD .undef).pv.toBool) then
  some ([.p (.str ⟨#[]⟩),.p (.int .i64 2)],[])
 else
  L tab C 17 [] [.lp [1,1,1,0,1,0]] (Jl f ((f.length:Nat):Int) 0):=by kernel_rfl
theorem Jm (C:aF) (iC:List PV)(jR dJ:Int):R tab C 17 [] [.lp [1,1,1,0,1,0]] (Jl iC jR dJ) =
 bif (jo dJ jR) then
  bif ((leI (0:Int) dJ)&&(jo dJ ((iC.length:Nat):Int))) then(C 40 [.p (.agg [.int .i64 (((iC.getD dJ.toNat .nil).cell 0).toInt),.list true gU (((iC.getD dJ.toNat .nil).cell 1).toList),.int .i64 (((iC.getD dJ.toNat .nil).cell 2).toInt),.int .i64 (((iC.getD dJ.toNat .nil).cell 3).toInt),.int .i64 (((iC.getD dJ.toNat .nil).cell 4).toInt),.int .i64 (((iC.getD dJ.toNat .nil).cell 5).toInt)])] []).bind fun r1 =>
  bif (Qr (((r1.1.headD .undef).pv.toStr).size+(⟨#[10]⟩:ByteArray).size) 4611686018427387904) then bif (Qr (((r1.1.headD .undef).pv.toStr++(⟨#[10]⟩:ByteArray)).size) 2147483648) then L tab C 17 [] [.lp [1,1,1,0,1,0]] (qU iC jR (IntKind.i64.wrap (dJ+(1:Int))) (yL ((r1.1.headD .undef).pv.toStr++(⟨#[10]⟩:ByteArray)))) else none else none else none
 else
  some ([.p (.str ⟨#[]⟩),.p (.int .i64 0)],[]):=by kernel_rfl
theorem CU (C:aF) (iC:List PV)(jR dJ:Int)(G6:List PV):R tab C 17 [] [.lp [1,1,1,0,1,0]] (qU iC jR dJ G6) =
 bif (jo dJ jR) then
  bif ((leI (0:Int) dJ)&&(jo dJ ((iC.length:Nat):Int))) then(C 40 [.p (.agg [.int .i64 (((iC.getD dJ.toNat .nil).cell 0).toInt),.list true gU (((iC.getD dJ.toNat .nil).cell 1).toList),.int .i64 (((iC.getD dJ.toNat .nil).cell 2).toInt),.int .i64 (((iC.getD dJ.toNat .nil).cell 3).toInt),.int .i64 (((iC.getD dJ.toNat .nil).cell 4).toInt),.int .i64 (((iC.getD dJ.toNat .nil).cell 5).toInt)])] []).bind fun r1 =>
  bif (Qr (((r1.1.headD .undef).pv.toStr).size+(⟨#[10]⟩:ByteArray).size) 4611686018427387904) then bif (Qr (G6.length+((r1.1.headD .undef).pv.toStr++(⟨#[10]⟩:ByteArray)).size) 2147483648) then L tab C 17 [] [.lp [1,1,1,0,1,0]] (qU iC jR (IntKind.i64.wrap (dJ+(1:Int))) (G6++(yL ((r1.1.headD .undef).pv.toStr++(⟨#[10]⟩:ByteArray))))) else none else none else none
 else
  bif (Qr G6.length 2147483648) then bif (G6.all PV.isByte) then some ([.p (.str (bytesOf G6)),.p (.int .i64 0)],[]) else none else none:=by kernel_rfl
def xM (s':ByteArray)(f_o f_l:Nat)(number':Int)(f_b:List PV):St:=⟨(.p (.str s'))::.undef::.undef::.undef::.undef::(.slice 5 6 f_o f_l)::(.p (.int .i64 number'))::List.replicate 36 .undef,[(5,.arr true gJ f_b)]⟩
theorem e19 (C:aF) (s:ByteArray):bn tab C 19 [.p (.str s)] [] =
 L tab C 19 [] [.lp [1,1,0,1,0]] (xM s 0 0 1 []):=by kernel_rfl
theorem FT (C:aF) (s':ByteArray)(f_o f_l:Nat)(number':Int)(f_b:List PV):R tab C 19 [] [.lp [1,1,0,1,0]] (xM s' f_o f_l number' f_b) =
 bif (!(s'.toList==(⟨#[]⟩:ByteArray).toList)) then
  bif (Dt number' (50:Int)) then
   some ([.fresh true gJ [],.p (.int .i64 number'),.p (.int .i64 7)],[])
  else
   (C 43 [.p (.str s'),.p (.str ⟨#[10]⟩)] []).bind fun r1 =>
   (C 44 [.p (.str ((r1.1.headD .undef).pv.toStr))] []).bind fun r2 =>
   bif (!(r2.1.tail.headD .undef).pv.toBool) then
    some ([.fresh true gJ [],.p (.int .i64 number'),.p (.int .i64 6)],[])
   else
    bif (!(r1.1.tail.tail.headD .undef).pv.toBool) then
     some ([.fresh true gJ [],.p (.int .i64 number'),.p (.int .i64 6)],[])
    else
     bif (Qr (f_l+1) 2147483648) then L tab C 19 [] [.lp [1,1,0,1,0]] (xM ((r1.1.tail.headD .undef).pv.toStr) 0 (f_l+1) (IntKind.i64.wrap (number'+(1:Int))) (((f_b.drop f_o).take f_l)++([.agg [.int .i64 (((r2.1.headD .undef).pv.cell 0).toInt),.list true gU (((r2.1.headD .undef).pv.cell 1).toList),.int .i64 (((r2.1.headD .undef).pv.cell 2).toInt),.int .i64 (((r2.1.headD .undef).pv.cell 3).toInt),.int .i64 (((r2.1.headD .undef).pv.cell 4).toInt),.int .i64 (((r2.1.headD .undef).pv.cell 5).toInt)]]:List PV))) else none
 else
  some ([.fresh true gJ ((f_b.drop f_o).take f_l),.p (.int .i64 0),.p (.int .i64 0)],[]):=by kernel_rfl
def BD (a' b':List PV)(i':Int):St:=⟨(.p (.list true gJ a'))::(.p (.list true gJ b'))::.undef::.undef::.undef::(.p (.int .i64 i'))::List.replicate 62 .undef,[]⟩
theorem e21 (C:aF) (a b:List PV):bn tab C 21 [.p (.list true gJ a),.p (.list true gJ b)] [] =
 bif (((a.length:Nat):Int) != ((b.length:Nat):Int)) then
  some ([.p (.bool false)],[])
 else
  L tab C 21 [] [.lp [1,1,0,1,0]] (BD a b 0):=by kernel_rfl
theorem Nk (C:aF) (a' b':List PV)(i':Int):R tab C 21 [] [.lp [1,1,0,1,0]] (BD a' b' i') =
 bif (jo i' ((a'.length:Nat):Int)) then
  bif ((leI (0:Int) i')&&(jo i' ((a'.length:Nat):Int))) then bif ((leI (0:Int) i')&&(jo i' ((b'.length:Nat):Int))) then bif (((a'.getD i'.toNat .nil).cell 0).toInt != ((b'.getD i'.toNat .nil).cell 0).toInt) then
   some ([.p (.bool false)],[])
  else
   bif (((a'.getD i'.toNat .nil).cell 2).toInt != ((b'.getD i'.toNat .nil).cell 2).toInt) then
    some ([.p (.bool false)],[])
   else
    bif (((a'.getD i'.toNat .nil).cell 3).toInt != ((b'.getD i'.toNat .nil).cell 3).toInt) then
     some ([.p (.bool false)],[])
    else
     bif (((a'.getD i'.toNat .nil).cell 4).toInt != ((b'.getD i'.toNat .nil).cell 4).toInt) then
      some ([.p (.bool false)],[])
     else
      bif (((a'.getD i'.toNat .nil).cell 5).toInt != ((b'.getD i'.toNat .nil).cell 5).toInt) then
       some ([.p (.bool false)],[])
      else
       (C 16 [.p (.list true gU (((a'.getD i'.toNat .nil).cell 1).toList)),.p (.list true gU (((b'.getD i'.toNat .nil).cell 1).toList))] []).bind fun r1 =>
       bif (!(r1.1.headD .undef).pv.toBool) then
        some ([.p (.bool false)],[])
       else
        L tab C 21 [] [.lp [1,1,0,1,0]] (BD a' b' (IntKind.i64.wrap (i'+(1:Int)))) else none else none
 else
  some ([.p (.bool true)],[]):=by kernel_rfl
def uP (jH iJ:Nat)(zY:List PV)(Jo yM iQ iR iT:Int)(jI:List PV):St:=⟨.undef::.undef::.undef::(.ptr 3 0 0)::.undef::.undef::(.slice 6 6 jH iJ)::.undef::.undef::.undef::.undef::.undef::.undef::.undef::.undef::.undef::.undef::.undef::.undef::.undef::.undef::(.p (.list true gJ zY))::(.p (.int .i64 Jo))::(.p (.int .i64 yM))::List.replicate 40 .undef,[(3,.box [.p (.int .i64 iQ),.p (.int .i64 iR),.p (.int .i64 iT)]),(6,.arr true gJ jI)]⟩
def jJ (jH iJ:Nat)(zY:List PV)(Jo yM:Int)(Jp Qu:Nat)(Ye FU iQ iR iT:Int)(jI:List PV)(iO:Int)(jB iK:Nat)(jq jr jv jd:Int)(G7:List PV):St:=⟨.undef::.undef::.undef::(.ptr 3 0 0)::.undef::.undef::(.slice 6 6 jH iJ)::.undef::(.ptr 8 0 0)::.undef::.undef::.undef::.undef::.undef::.undef::.undef::.undef::.undef::.undef::.undef::.undef::(.p (.list true gJ zY))::(.p (.int .i64 Jo))::(.p (.int .i64 yM))::.undef::.undef::.undef::.undef::.undef::.undef::.undef::.undef::(.slice 29 3 Jp Qu)::(.p (.int .i64 Ye))::(.p (.int .i64 FU))::List.replicate 29 .undef,[(3,.box [.p (.int .i64 iQ),.p (.int .i64 iR),.p (.int .i64 iT)]),(6,.arr true gJ jI),(8,.box [.p (.int .i64 iO),.slice 29 3 jB iK,.p (.int .i64 jq),.p (.int .i64 jr),.p (.int .i64 jv),.p (.int .i64 jd)]),(29,.arr true gU G7)]⟩
theorem e22 (C:aF) (f:List PV)(sW sZ tq:Int):bn tab C 22 [.p (.list true gJ f),.p (.agg [.int .i64 sW,.int .i64 sZ,.int .i64 tq])] [] =
 (C 28 [.p (.list true gJ f)] []).bind fun r1 =>
 bif (!(r1.1.headD .undef).pv.toBool) then
  some ([.fresh true gJ [],.p (.int .i64 2)],[])
 else
  (C 47 [.p (.agg [.int .i64 sW,.int .i64 sZ,.int .i64 tq])] []).bind fun r2 =>
  bif (!(r2.1.headD .undef).pv.toBool) then
   some ([.fresh true gJ [],.p (.int .i64 2)],[])
  else
   L tab C 22 [] [.lp [1,1,1,0,1,0]] (uP 0 0 f ((f.length:Nat):Int) 0 sW sZ tq []):=by kernel_rfl
theorem Jq (C:aF) (jH iJ:Nat)(zY:List PV)(Jo yM iQ iR iT:Int)(jI:List PV):R tab C 22 [] [.lp [1,1,1,0,1,0]] (uP jH iJ zY Jo yM iQ iR iT jI) =
 bif (jo yM Jo) then
  bif ((leI (0:Int) yM)&&(jo yM ((zY.length:Nat):Int))) then(C 48 [.p (.list true gU (((zY.getD yM.toNat .nil).cell 1).toList))] []).bind fun r1 =>
  L tab C 22 [] [.lp [1,1,1,0,1,0],.lp [1,1,0,0,1,1,0,1,0]] (jJ jH iJ zY Jo yM 0 ((r1.1.headD .undef).ak.length) (((r1.1.headD .undef).ak.length:Nat):Int) 0 iQ iR iT jI (((zY.getD yM.toNat .nil).cell 0).toInt) 0 ((r1.1.headD .undef).ak.length) (((zY.getD yM.toNat .nil).cell 2).toInt) (((zY.getD yM.toNat .nil).cell 3).toInt) (((zY.getD yM.toNat .nil).cell 4).toInt) (((zY.getD yM.toNat .nil).cell 5).toInt) ((r1.1.headD .undef).ak)) else none
 else
  some ([.fresh true gJ ((jI.drop jH).take iJ),.p (.int .i64 0)],[]):=by kernel_rfl
theorem rD (C:aF) (jH iJ:Nat)(zY:List PV)(Jo yM:Int)(Jp Qu:Nat)(Ye FU iQ iR iT:Int)(jI:List PV)(iO:Int)(jB iK:Nat)(jq jr jv jd:Int)(G7:List PV):R tab C 22 [] [.lp [1,1,1,0,1,0],.lp [1,1,0,0,1,1,0,1,0]] (jJ jH iJ zY Jo yM Jp Qu Ye FU iQ iR iT jI iO jB iK jq jr jv jd G7) =
 bif (jo FU Ye) then
  bif ((leI (0:Int) FU)&&(jo FU (Qu:Int))) then(C 49 [.p (.agg [.int .i64 (((G7.getD (Jp+FU.toNat) .nil).cell 0).toInt),.int .i64 (((G7.getD (Jp+FU.toNat) .nil).cell 1).toInt),.int .i64 (((G7.getD (Jp+FU.toNat) .nil).cell 2).toInt)]),.p (.agg [.int .i64 iQ,.int .i64 iR,.int .i64 iT])] []).bind fun r1 =>
  bif ((r1.1.tail.headD .undef).pv.toInt != (0:Int)) then
   some ([.fresh true gJ [],.p (.int .i64 3)],[])
  else
   (C 31 [.p (.agg [.int .i64 (((r1.1.headD .undef).pv.cell 0).toInt),.int .i64 (((r1.1.headD .undef).pv.cell 1).toInt),.int .i64 (((r1.1.headD .undef).pv.cell 2).toInt)])] []).bind fun r2 =>
   bif (!(r2.1.headD .undef).pv.toBool) then
    some ([.fresh true gJ [],.p (.int .i64 3)],[])
   else
    bif ((leI (0:Int) FU)&&(jo FU (iK:Int))) then L tab C 22 [] [.lp [1,1,1,0,1,0],.lp [1,1,0,0,1,1,0,1,0]] (jJ jH iJ zY Jo yM Jp Qu Ye (IntKind.i64.wrap (FU+(1:Int))) iQ iR iT jI iO jB iK jq jr jv jd (G7.set (jB+FU.toNat) (PV.agg [.int .i64 (((r1.1.headD .undef).pv.cell 0).toInt),.int .i64 (((r1.1.headD .undef).pv.cell 1).toInt),.int .i64 (((r1.1.headD .undef).pv.cell 2).toInt)]))) else none else none
 else
  bif (Qr (iJ+1) 2147483648) then L tab C 22 [] [.lp [1,1,1,0,1,0]] (uP 0 (iJ+1) zY Jo (IntKind.i64.wrap (yM+(1:Int))) iQ iR iT (((jI.drop jH).take iJ)++([.agg [.int .i64 iO,.list true gU ((G7.drop jB).take iK),.int .i64 jq,.int .i64 jr,.int .i64 jv,.int .i64 jd]]:List PV))) else none:=by kernel_rfl
theorem e25 (C:aF) (x y z:Int):bn tab C 25 [.p (.int .i64 x),.p (.int .i64 y),.p (.int .i64 z)] [] =
 some ([.p (.agg [.int .i64 x,.int .i64 y,.int .i64 z])],[]):=by kernel_rfl
theorem e26 (C:aF) (a_0 a_1 a_2 OE b_1 OG:Int):bn tab C 26 [.p (.agg [.int .i64 a_0,.int .i64 a_1,.int .i64 a_2]),.p (.agg [.int .i64 OE,.int .i64 b_1,.int .i64 OG])] [] =
 some ([.p (.agg [.int .i64 (IntKind.i64.wrap (a_0+OE)),.int .i64 (IntKind.i64.wrap (a_1+b_1)),.int .i64 (IntKind.i64.wrap (a_2+OG))])],[]):=by kernel_rfl
theorem e28 (C:aF) (f:List PV):bn tab C 28 [.p (.list true gJ f)] [] =
 bif (leI ((f.length:Nat):Int) (50:Int)) then
  (C 52 [.p (.list true gJ f),.p (.fn 53 [])] []).bind fun r1 =>
  some ([.p (.bool (!(r1.1.headD .undef).pv.toBool))],[])
 else
  some ([.p (.bool false)],[]):=by kernel_rfl
theorem e30 (C:aF) (s_0:Int)(s_1:List PV)(s_2 zZ Aa oL:Int):bn tab C 30 [.p (.agg [.int .i64 s_0,.list true gU s_1,.int .i64 s_2,.int .i64 zZ,.int .i64 Aa,.int .i64 oL])] [] =
 bif (s_0==(1:Int)) then
  (C 58 [.p (.list true gU s_1)] []).bind fun r1 =>
  some ([.p (.fn 92 [.ref [.list true gU ((((r1.1.headD .undef).pv.cap 0).dL 0).toList)]])],[])
 else
  bif (s_0==(2:Int)) then
   bif (s_0==(2:Int)) then
    (C 59 [.p (.agg [.int .i64 s_0,.list true gU s_1,.int .i64 s_2,.int .i64 zZ,.int .i64 Aa,.int .i64 oL])] []).bind fun r2 =>
    some ([.p (.fn 93 [.ref [.int .i64 ((((r2.1.headD .undef).pv.cap 0).dL 0).toInt),.list true gU ((((r2.1.headD .undef).pv.cap 0).dL 1).toList),.int .i64 ((((r2.1.headD .undef).pv.cap 0).dL 2).toInt),.int .i64 ((((r2.1.headD .undef).pv.cap 0).dL 3).toInt),.int .i64 ((((r2.1.headD .undef).pv.cap 0).dL 4).toInt),.int .i64 ((((r2.1.headD .undef).pv.cap 0).dL 5).toInt)]])],[])
   else
    (C 60 [.p (.agg [.int .i64 s_0,.list true gU s_1,.int .i64 s_2,.int .i64 zZ,.int .i64 Aa,.int .i64 oL])] []).bind fun r3 =>
    some ([.p (.fn 95 [.ref [.int .i64 ((((r3.1.headD .undef).pv.cap 0).dL 0).toInt),.list true gU ((((r3.1.headD .undef).pv.cap 0).dL 1).toList),.int .i64 ((((r3.1.headD .undef).pv.cap 0).dL 2).toInt),.int .i64 ((((r3.1.headD .undef).pv.cap 0).dL 3).toInt),.int .i64 ((((r3.1.headD .undef).pv.cap 0).dL 4).toInt),.int .i64 ((((r3.1.headD .undef).pv.cap 0).dL 5).toInt)]])],[])
  else
   bif (s_0==(3:Int)) then
    (C 59 [.p (.agg [.int .i64 s_0,.list true gU s_1,.int .i64 s_2,.int .i64 zZ,.int .i64 Aa,.int .i64 oL])] []).bind fun r4 =>
    some ([.p (.fn 93 [.ref [.int .i64 ((((r4.1.headD .undef).pv.cap 0).dL 0).toInt),.list true gU ((((r4.1.headD .undef).pv.cap 0).dL 1).toList),.int .i64 ((((r4.1.headD .undef).pv.cap 0).dL 2).toInt),.int .i64 ((((r4.1.headD .undef).pv.cap 0).dL 3).toInt),.int .i64 ((((r4.1.headD .undef).pv.cap 0).dL 4).toInt),.int .i64 ((((r4.1.headD .undef).pv.cap 0).dL 5).toInt)]])],[])
   else
    (C 60 [.p (.agg [.int .i64 s_0,.list true gU s_1,.int .i64 s_2,.int .i64 zZ,.int .i64 Aa,.int .i64 oL])] []).bind fun r5 =>
    some ([.p (.fn 95 [.ref [.int .i64 ((((r5.1.headD .undef).pv.cap 0).dL 0).toInt),.list true gU ((((r5.1.headD .undef).pv.cap 0).dL 1).toList),.int .i64 ((((r5.1.headD .undef).pv.cap 0).dL 2).toInt),.int .i64 ((((r5.1.headD .undef).pv.cap 0).dL 3).toInt),.int .i64 ((((r5.1.headD .undef).pv.cap 0).dL 4).toInt),.int .i64 ((((r5.1.headD .undef).pv.cap 0).dL 5).toInt)]])],[]):=by kernel_rfl
theorem e31 (C:aF) (FV v_1 FX:Int):bn tab C 31 [.p (.agg [.int .i64 FV,.int .i64 v_1,.int .i64 FX])] [] =
 (C 61 [.p (.int .i64 1048576),.p (.list false [.int .i64] [.int .i64 FV,.int .i64 v_1,.int .i64 FX])] []).bind fun r1 =>
 some ([.p (.bool ((r1.1.headD .undef).pv.toBool))],[]):=by kernel_rfl
theorem e33 (C:aF) (mk mv:List PV):bn tab C 33 [.p (.zX mk mv)] [] =
 some ([.p (.fn 64 [.ref [.zX mk mv]])],[]):=by kernel_rfl
theorem e34 (C:aF) (a_0 a_1 a_2 OE b_1 OG:Int):bn tab C 34 [.p (.agg [.int .i64 a_0,.int .i64 a_1,.int .i64 a_2]),.p (.agg [.int .i64 OE,.int .i64 b_1,.int .i64 OG])] [] =
 (C 65 [.p (.agg [.int .i64 a_0,.int .i64 a_1,.int .i64 a_2])] []).bind fun r1 =>
 (C 65 [.p (.agg [.int .i64 OE,.int .i64 b_1,.int .i64 OG])] []).bind fun r2 =>
 (C 66 [.p (.list false [.int .i64] [.int .i64 (((r1.1.headD .undef).pv.cell 0).toInt),.int .i64 (((r1.1.headD .undef).pv.cell 1).toInt),.int .i64 (((r1.1.headD .undef).pv.cell 2).toInt)]),.p (.list false [.int .i64] [.int .i64 (((r2.1.headD .undef).pv.cell 0).toInt),.int .i64 (((r2.1.headD .undef).pv.cell 1).toInt),.int .i64 (((r2.1.headD .undef).pv.cell 2).toInt)])] []).bind fun r3 =>
 some ([.p (.int .i64 ((r3.1.headD .undef).pv.toInt))],[]):=by kernel_rfl
theorem e35 (C:aF) (s_0:Int)(s_1:List PV)(s_2 zZ Aa oL:Int):bn tab C 35 [.p (.agg [.int .i64 s_0,.list true gU s_1,.int .i64 s_2,.int .i64 zZ,.int .i64 Aa,.int .i64 oL])] [] =
 bif (Dt ((s_1.length:Nat):Int) (200:Int)) then
  some ([.p (.bool false)],[])
 else
  (C 37 [.p (.list true gU s_1)] []).bind fun r1 =>
  bif (!(r1.1.headD .undef).pv.toBool) then
   some ([.p (.bool false)],[])
  else
   (C 67 [.p (.int .i64 zZ),.p (.int .i64 1),.p (.int .i64 50)] []).bind fun r2 =>
   bif (r2.1.headD .undef).pv.toBool then
    (C 67 [.p (.int .i64 Aa),.p (.int .i64 1),.p (.int .i64 10000)] []).bind fun r3 =>
    bif (r3.1.headD .undef).pv.toBool then
     bif (s_2==(0:Int)) then
      bif (zZ==(0:Int)) then
       bif (Aa==(0:Int)) then
        bif (s_0==(1:Int)) then
         bif (wJ ((s_1.length:Nat):Int) (1:Int)) then
          bif (oL==(0:Int)) then
           some ([.p (.bool (s_2==(0:Int)))],[])
          else
           some ([.p (.bool false)],[])
         else
          some ([.p (.bool false)],[])
        else
         bif (s_0==(2:Int)) then
          bif (wJ ((s_1.length:Nat):Int) (2:Int)) then
           bif (oL==(0:Int)) then
            (C 67 [.p (.int .i64 s_2),.p (.int .i64 1),.p (.int .i64 500)] []).bind fun r4 =>
            some ([.p (.bool ((r4.1.headD .undef).pv.toBool))],[])
           else
            some ([.p (.bool false)],[])
          else
           some ([.p (.bool false)],[])
         else
          bif (s_0==(3:Int)) then
           bif (wJ ((s_1.length:Nat):Int) (3:Int)) then
            bif (oL==(0:Int)) then
             (C 67 [.p (.int .i64 s_2),.p (.int .i64 1),.p (.int .i64 500)] []).bind fun r5 =>
             some ([.p (.bool ((r5.1.headD .undef).pv.toBool))],[])
            else
             some ([.p (.bool false)],[])
           else
            some ([.p (.bool false)],[])
          else
           bif (s_0==(4:Int)) then
            bif (((s_1.length:Nat):Int)==(1:Int)) then
             (C 67 [.p (.int .i64 oL),.p (.int .i64 0),.p (.int .i64 2)] []).bind fun r6 =>
             some ([.p (.bool ((r6.1.headD .undef).pv.toBool))],[])
            else
             some ([.p (.bool false)],[])
           else
            bif (s_0==(5:Int)) then
             bif (((s_1.length:Nat):Int)==(1:Int)) then
              some ([.p (.bool (oL==(0:Int)))],[])
             else
              some ([.p (.bool false)],[])
            else
             some ([.p (.bool false)],[])
       else
        bif (s_0==(1:Int)) then
         bif (wJ ((s_1.length:Nat):Int) (1:Int)) then
          some ([.p (.bool false)],[])
         else
          some ([.p (.bool false)],[])
        else
         bif (s_0==(2:Int)) then
          bif (wJ ((s_1.length:Nat):Int) (2:Int)) then
           some ([.p (.bool false)],[])
          else
           some ([.p (.bool false)],[])
         else
          bif (s_0==(3:Int)) then
           bif (wJ ((s_1.length:Nat):Int) (3:Int)) then
            some ([.p (.bool false)],[])
           else
            some ([.p (.bool false)],[])
          else
           bif (s_0==(4:Int)) then
            bif (((s_1.length:Nat):Int)==(1:Int)) then
             (C 67 [.p (.int .i64 oL),.p (.int .i64 0),.p (.int .i64 2)] []).bind fun r7 =>
             some ([.p (.bool ((r7.1.headD .undef).pv.toBool))],[])
            else
             some ([.p (.bool false)],[])
           else
            bif (s_0==(5:Int)) then
             bif (((s_1.length:Nat):Int)==(1:Int)) then
              some ([.p (.bool (oL==(0:Int)))],[])
             else
              some ([.p (.bool false)],[])
            else
             some ([.p (.bool false)],[])
      else
       bif (s_0==(1:Int)) then
        bif (wJ ((s_1.length:Nat):Int) (1:Int)) then
         some ([.p (.bool false)],[])
        else
         some ([.p (.bool false)],[])
       else
        bif (s_0==(2:Int)) then
         bif (wJ ((s_1.length:Nat):Int) (2:Int)) then
          some ([.p (.bool false)],[])
         else
          some ([.p (.bool false)],[])
        else
         bif (s_0==(3:Int)) then
          bif (wJ ((s_1.length:Nat):Int) (3:Int)) then
           some ([.p (.bool false)],[])
          else
           some ([.p (.bool false)],[])
         else
          bif (s_0==(4:Int)) then
           bif (((s_1.length:Nat):Int)==(1:Int)) then
            (C 67 [.p (.int .i64 oL),.p (.int .i64 0),.p (.int .i64 2)] []).bind fun r8 =>
            some ([.p (.bool ((r8.1.headD .undef).pv.toBool))],[])
           else
            some ([.p (.bool false)],[])
          else
           bif (s_0==(5:Int)) then
            bif (((s_1.length:Nat):Int)==(1:Int)) then
             some ([.p (.bool (oL==(0:Int)))],[])
            else
             some ([.p (.bool false)],[])
           else
            some ([.p (.bool false)],[])
     else
      bif (zZ==(0:Int)) then
       bif (Aa==(0:Int)) then
        bif (s_0==(1:Int)) then
         bif (wJ ((s_1.length:Nat):Int) (1:Int)) then
          bif (oL==(0:Int)) then
           some ([.p (.bool (s_2==(0:Int)))],[])
          else
           some ([.p (.bool false)],[])
         else
          some ([.p (.bool false)],[])
        else
         bif (s_0==(2:Int)) then
          bif (wJ ((s_1.length:Nat):Int) (2:Int)) then
           bif (oL==(0:Int)) then
            (C 67 [.p (.int .i64 s_2),.p (.int .i64 1),.p (.int .i64 500)] []).bind fun r9 =>
            some ([.p (.bool ((r9.1.headD .undef).pv.toBool))],[])
           else
            some ([.p (.bool false)],[])
          else
           some ([.p (.bool false)],[])
         else
          bif (s_0==(3:Int)) then
           bif (wJ ((s_1.length:Nat):Int) (3:Int)) then
            bif (oL==(0:Int)) then
             (C 67 [.p (.int .i64 s_2),.p (.int .i64 1),.p (.int .i64 500)] []).bind fun r10 =>
             some ([.p (.bool ((r10.1.headD .undef).pv.toBool))],[])
            else
             some ([.p (.bool false)],[])
           else
            some ([.p (.bool false)],[])
          else
           bif (s_0==(4:Int)) then
            some ([.p (.bool false)],[])
           else
            bif (s_0==(5:Int)) then
             some ([.p (.bool false)],[])
            else
             some ([.p (.bool false)],[])
       else
        bif (s_0==(1:Int)) then
         bif (wJ ((s_1.length:Nat):Int) (1:Int)) then
          some ([.p (.bool false)],[])
         else
          some ([.p (.bool false)],[])
        else
         bif (s_0==(2:Int)) then
          bif (wJ ((s_1.length:Nat):Int) (2:Int)) then
           some ([.p (.bool false)],[])
          else
           some ([.p (.bool false)],[])
         else
          bif (s_0==(3:Int)) then
           bif (wJ ((s_1.length:Nat):Int) (3:Int)) then
            some ([.p (.bool false)],[])
           else
            some ([.p (.bool false)],[])
          else
           bif (s_0==(4:Int)) then
            some ([.p (.bool false)],[])
           else
            bif (s_0==(5:Int)) then
             some ([.p (.bool false)],[])
            else
             some ([.p (.bool false)],[])
      else
       bif (s_0==(1:Int)) then
        bif (wJ ((s_1.length:Nat):Int) (1:Int)) then
         some ([.p (.bool false)],[])
        else
         some ([.p (.bool false)],[])
       else
        bif (s_0==(2:Int)) then
         bif (wJ ((s_1.length:Nat):Int) (2:Int)) then
          some ([.p (.bool false)],[])
         else
          some ([.p (.bool false)],[])
        else
         bif (s_0==(3:Int)) then
          bif (wJ ((s_1.length:Nat):Int) (3:Int)) then
           some ([.p (.bool false)],[])
          else
           some ([.p (.bool false)],[])
         else
          bif (s_0==(4:Int)) then
           some ([.p (.bool false)],[])
          else
           bif (s_0==(5:Int)) then
            some ([.p (.bool false)],[])
           else
            some ([.p (.bool false)],[])
    else
     bif (zZ==(0:Int)) then
      bif (Aa==(0:Int)) then
       bif (s_0==(1:Int)) then
        bif (wJ ((s_1.length:Nat):Int) (1:Int)) then
         bif (oL==(0:Int)) then
          some ([.p (.bool (s_2==(0:Int)))],[])
         else
          some ([.p (.bool false)],[])
        else
         some ([.p (.bool false)],[])
       else
        bif (s_0==(2:Int)) then
         bif (wJ ((s_1.length:Nat):Int) (2:Int)) then
          bif (oL==(0:Int)) then
           (C 67 [.p (.int .i64 s_2),.p (.int .i64 1),.p (.int .i64 500)] []).bind fun r11 =>
           some ([.p (.bool ((r11.1.headD .undef).pv.toBool))],[])
          else
           some ([.p (.bool false)],[])
         else
          some ([.p (.bool false)],[])
        else
         bif (s_0==(3:Int)) then
          bif (wJ ((s_1.length:Nat):Int) (3:Int)) then
           bif (oL==(0:Int)) then
            (C 67 [.p (.int .i64 s_2),.p (.int .i64 1),.p (.int .i64 500)] []).bind fun r12 =>
            some ([.p (.bool ((r12.1.headD .undef).pv.toBool))],[])
           else
            some ([.p (.bool false)],[])
          else
           some ([.p (.bool false)],[])
         else
          bif (s_0==(4:Int)) then
           some ([.p (.bool false)],[])
          else
           bif (s_0==(5:Int)) then
            some ([.p (.bool false)],[])
           else
            some ([.p (.bool false)],[])
      else
       bif (s_0==(1:Int)) then
        bif (wJ ((s_1.length:Nat):Int) (1:Int)) then
         some ([.p (.bool false)],[])
        else
         some ([.p (.bool false)],[])
       else
        bif (s_0==(2:Int)) then
         bif (wJ ((s_1.length:Nat):Int) (2:Int)) then
          some ([.p (.bool false)],[])
         else
          some ([.p (.bool false)],[])
        else
         bif (s_0==(3:Int)) then
          bif (wJ ((s_1.length:Nat):Int) (3:Int)) then
           some ([.p (.bool false)],[])
          else
           some ([.p (.bool false)],[])
         else
          bif (s_0==(4:Int)) then
           some ([.p (.bool false)],[])
          else
           bif (s_0==(5:Int)) then
            some ([.p (.bool false)],[])
           else
            some ([.p (.bool false)],[])
     else
      bif (s_0==(1:Int)) then
       bif (wJ ((s_1.length:Nat):Int) (1:Int)) then
        some ([.p (.bool false)],[])
       else
        some ([.p (.bool false)],[])
      else
       bif (s_0==(2:Int)) then
        bif (wJ ((s_1.length:Nat):Int) (2:Int)) then
         some ([.p (.bool false)],[])
        else
         some ([.p (.bool false)],[])
       else
        bif (s_0==(3:Int)) then
         bif (wJ ((s_1.length:Nat):Int) (3:Int)) then
          some ([.p (.bool false)],[])
         else
          some ([.p (.bool false)],[])
        else
         bif (s_0==(4:Int)) then
          some ([.p (.bool false)],[])
         else
          bif (s_0==(5:Int)) then
           some ([.p (.bool false)],[])
          else
           some ([.p (.bool false)],[])
   else
    bif (zZ==(0:Int)) then
     bif (Aa==(0:Int)) then
      bif (s_0==(1:Int)) then
       bif (wJ ((s_1.length:Nat):Int) (1:Int)) then
        bif (oL==(0:Int)) then
         some ([.p (.bool (s_2==(0:Int)))],[])
        else
         some ([.p (.bool false)],[])
       else
        some ([.p (.bool false)],[])
      else
       bif (s_0==(2:Int)) then
        bif (wJ ((s_1.length:Nat):Int) (2:Int)) then
         bif (oL==(0:Int)) then
          (C 67 [.p (.int .i64 s_2),.p (.int .i64 1),.p (.int .i64 500)] []).bind fun r13 =>
          some ([.p (.bool ((r13.1.headD .undef).pv.toBool))],[])
         else
          some ([.p (.bool false)],[])
        else
         some ([.p (.bool false)],[])
       else
        bif (s_0==(3:Int)) then
         bif (wJ ((s_1.length:Nat):Int) (3:Int)) then
          bif (oL==(0:Int)) then
           (C 67 [.p (.int .i64 s_2),.p (.int .i64 1),.p (.int .i64 500)] []).bind fun X3 =>
           some ([.p (.bool ((X3.1.headD .undef).pv.toBool))],[])
          else
           some ([.p (.bool false)],[])
         else
          some ([.p (.bool false)],[])
        else
         bif (s_0==(4:Int)) then
          some ([.p (.bool false)],[])
         else
          bif (s_0==(5:Int)) then
           some ([.p (.bool false)],[])
          else
           some ([.p (.bool false)],[])
     else
      bif (s_0==(1:Int)) then
       bif (wJ ((s_1.length:Nat):Int) (1:Int)) then
        some ([.p (.bool false)],[])
       else
        some ([.p (.bool false)],[])
      else
       bif (s_0==(2:Int)) then
        bif (wJ ((s_1.length:Nat):Int) (2:Int)) then
         some ([.p (.bool false)],[])
        else
         some ([.p (.bool false)],[])
       else
        bif (s_0==(3:Int)) then
         bif (wJ ((s_1.length:Nat):Int) (3:Int)) then
          some ([.p (.bool false)],[])
         else
          some ([.p (.bool false)],[])
        else
         bif (s_0==(4:Int)) then
          some ([.p (.bool false)],[])
         else
          bif (s_0==(5:Int)) then
           some ([.p (.bool false)],[])
          else
           some ([.p (.bool false)],[])
    else
     bif (s_0==(1:Int)) then
      bif (wJ ((s_1.length:Nat):Int) (1:Int)) then
       some ([.p (.bool false)],[])
      else
       some ([.p (.bool false)],[])
     else
      bif (s_0==(2:Int)) then
       bif (wJ ((s_1.length:Nat):Int) (2:Int)) then
        some ([.p (.bool false)],[])
       else
        some ([.p (.bool false)],[])
      else
       bif (s_0==(3:Int)) then
        bif (wJ ((s_1.length:Nat):Int) (3:Int)) then
         some ([.p (.bool false)],[])
        else
         some ([.p (.bool false)],[])
       else
        bif (s_0==(4:Int)) then
         some ([.p (.bool false)],[])
        else
         bif (s_0==(5:Int)) then
          some ([.p (.bool false)],[])
         else
          some ([.p (.bool false)],[]):=by kernel_rfl
def Ep (l':List PV)(i':Int):St:=⟨(.p (.list true gU l'))::.undef::.undef::(.p (.int .i64 i'))::List.replicate 12 .undef,[]⟩
theorem e37 (C:aF) (l:List PV):bn tab C 37 [.p (.list true gU l)] [] =
 L tab C 37 [] [.lp [1,0,1,0]] (Ep l 0):=by kernel_rfl
theorem Qv (C:aF) (l':List PV)(i':Int):R tab C 37 [] [.lp [1,0,1,0]] (Ep l' i') =
 bif (jo i' ((l'.length:Nat):Int)) then
  bif ((leI (0:Int) i')&&(jo i' ((l'.length:Nat):Int))) then(C 70 [.p (.agg [.int .i64 (((l'.getD i'.toNat .nil).cell 0).toInt),.int .i64 (((l'.getD i'.toNat .nil).cell 1).toInt),.int .i64 (((l'.getD i'.toNat .nil).cell 2).toInt)])] []).bind fun r1 =>
  bif (!(r1.1.headD .undef).pv.toBool) then
   some ([.p (.bool false)],[])
  else
   L tab C 37 [] [.lp [1,0,1,0]] (Ep l' (IntKind.i64.wrap (i'+(1:Int)))) else none
 else
  some ([.p (.bool true)],[]):=by kernel_rfl
end Go.Skm.Fig
