/-
  What the machine does in each function of this program, and in each round of each loop; no condition.
-/
import Derived.Test.YtipkmkmngcjdbaaGreatDoorSkmE
import Derived.Test.YtipkmkmngcjdbaaGreatDoorTab
import Derived.KernelRfl
set_option maxRecDepth 100000
namespace Go.Skm.Fig
open Go Go.Skm
def S7_1111111010 (many_o many_l:Nat)(i':Int)(many_b:List PV):St:=⟨.undef::.undef::.undef::.undef::.undef::.undef::.undef::.undef::.undef::.undef::.undef::.undef::(.slice 12 6 many_o many_l)::(.p (.int .i64 i'))::List.replicate 126 .undef,[(12,.arr true kSh many_b)]⟩
theorem e7 (C:CallF) (radius step plane:Int):acallI tab C 7 [.p (.int .i64 radius),.p (.int .i64 step),.p (.int .i64 plane)] [] =
 bif (ltI radius (1:Int)) then
  (C 12 [] []).bind fun r1 =>
  some ([.p (.bool ((r1.1.headD .undef).pv.toBool))],[])
 else
  bif (gtI radius (50:Int)) then
   (C 12 [] []).bind fun r2 =>
   some ([.p (.bool ((r2.1.headD .undef).pv.toBool))],[])
  else
   bif (ltI step (1:Int)) then
    (C 12 [] []).bind fun r3 =>
    some ([.p (.bool ((r3.1.headD .undef).pv.toBool))],[])
   else
    bif (gtI step (10000:Int)) then
     (C 12 [] []).bind fun r4 =>
     some ([.p (.bool ((r4.1.headD .undef).pv.toBool))],[])
    else
     bif (ltI plane (0:Int)) then
      (C 12 [] []).bind fun r5 =>
      some ([.p (.bool ((r5.1.headD .undef).pv.toBool))],[])
     else
      bif (gtI plane (2:Int)) then
       (C 12 [] []).bind fun r6 =>
       some ([.p (.bool ((r6.1.headD .undef).pv.toBool))],[])
      else
       (C 25 [.p (.int .i64 1),.p (.int .i64 2),.p (.int .i64 3)] []).bind fun r7 =>
       (C 13 [.p (.list true kSh [.agg [.int .i64 4,.list true kV3 [.agg [.int .i64 (((r7.1.headD .undef).pv.cell 0).toInt),.int .i64 (((r7.1.headD .undef).pv.cell 1).toInt),.int .i64 (((r7.1.headD .undef).pv.cell 2).toInt)]],.int .i64 0,.int .i64 radius,.int .i64 step,.int .i64 plane]])] []).bind fun r8 =>
       (C 15 [.p (.list true kSh [.agg [.int .i64 4,.list true kV3 [.agg [.int .i64 (((r7.1.headD .undef).pv.cell 0).toInt),.int .i64 (((r7.1.headD .undef).pv.cell 1).toInt),.int .i64 (((r7.1.headD .undef).pv.cell 2).toInt)]],.int .i64 0,.int .i64 radius,.int .i64 step,.int .i64 plane]])] []).bind fun r9 =>
       (C 16 [.p (.list true kV3 ((((r8.1.headD .undef).freshList).drop 0).take ((r8.1.headD .undef).freshList.length))),.p (.list true kV3 ((((r9.1.headD .undef).freshList).drop 0).take ((r9.1.headD .undef).freshList.length)))] []).bind fun r10 =>
       bif (!(r10.1.headD .undef).pv.toBool) then
        some ([.p (.bool false)],[])
       else
        bif ((r8.1.tail.headD .undef).pv.toInt != (0:Int)) then
         some ([.p (.bool false)],[])
        else
         L tab C 7 [] [.lp [1,1,1,1,1,1,1,0,1,0]] (S7_1111111010 0 0 0 []):=by kernel_rfl
theorem e7_1111111010 (C:CallF) (many_o many_l:Nat)(i':Int)(many_b:List PV):R tab C 7 [] [.lp [1,1,1,1,1,1,1,0,1,0]] (S7_1111111010 many_o many_l i' many_b) =
 bif (ltI i' (9:Int)) then
  bif (i'==(8:Int)) then
   (C 25 [.p (.int .i64 0),.p (.int .i64 i'),.p (.int .i64 0)] []).bind fun r1 =>
   (C 25 [.p (.int .i64 87),.p (.int .i64 i'),.p (.int .i64 0)] []).bind fun r2 =>
   bif (leN (many_l+1) 2147483648) then L tab C 7 [] [.lp [1,1,1,1,1,1,1,0,1,0]] (S7_1111111010 0 (many_l+1) (IntKind.i64.wrap (i'+(1:Int))) (((many_b.drop many_o).take many_l)++([.agg [.int .i64 2,.list true kV3 [.agg [.int .i64 (((r1.1.headD .undef).pv.cell 0).toInt),.int .i64 (((r1.1.headD .undef).pv.cell 1).toInt),.int .i64 (((r1.1.headD .undef).pv.cell 2).toInt)],.agg [.int .i64 (((r2.1.headD .undef).pv.cell 0).toInt),.int .i64 (((r2.1.headD .undef).pv.cell 1).toInt),.int .i64 (((r2.1.headD .undef).pv.cell 2).toInt)]],.int .i64 87,.int .i64 0,.int .i64 0,.int .i64 0]]:List PV))) else none
  else
   (C 25 [.p (.int .i64 0),.p (.int .i64 i'),.p (.int .i64 0)] []).bind fun r3 =>
   (C 25 [.p (.int .i64 500),.p (.int .i64 i'),.p (.int .i64 0)] []).bind fun r4 =>
   bif (leN (many_l+1) 2147483648) then L tab C 7 [] [.lp [1,1,1,1,1,1,1,0,1,0]] (S7_1111111010 0 (many_l+1) (IntKind.i64.wrap (i'+(1:Int))) (((many_b.drop many_o).take many_l)++([.agg [.int .i64 2,.list true kV3 [.agg [.int .i64 (((r3.1.headD .undef).pv.cell 0).toInt),.int .i64 (((r3.1.headD .undef).pv.cell 1).toInt),.int .i64 (((r3.1.headD .undef).pv.cell 2).toInt)],.agg [.int .i64 (((r4.1.headD .undef).pv.cell 0).toInt),.int .i64 (((r4.1.headD .undef).pv.cell 1).toInt),.int .i64 (((r4.1.headD .undef).pv.cell 2).toInt)]],.int .i64 500,.int .i64 0,.int .i64 0,.int .i64 0]]:List PV))) else none
 else
  (C 13 [.p (.list true kSh ((many_b.drop many_o).take many_l))] []).bind fun r5 =>
  (C 25 [.p (.int .i64 0),.p (.int .i64 9),.p (.int .i64 9)] []).bind fun r6 =>
  bif (leN (many_l+1) 2147483648) then(C 13 [.p (.list true kSh (((((many_b.drop many_o).take many_l)++([.agg [.int .i64 1,.list true kV3 [.agg [.int .i64 (((r6.1.headD .undef).pv.cell 0).toInt),.int .i64 (((r6.1.headD .undef).pv.cell 1).toInt),.int .i64 (((r6.1.headD .undef).pv.cell 2).toInt)]],.int .i64 0,.int .i64 0,.int .i64 0,.int .i64 0]]:List PV)).drop 0).take (many_l+1)))] []).bind fun r7 =>
  (C 25 [.p (.int .i64 0),.p (.int .i64 0),.p (.int .i64 0)] []).bind fun r8 =>
  (C 13 [.p (.list true kSh [.agg [.int .i64 5,.list true kV3 [.agg [.int .i64 (((r8.1.headD .undef).pv.cell 0).toInt),.int .i64 (((r8.1.headD .undef).pv.cell 1).toInt),.int .i64 (((r8.1.headD .undef).pv.cell 2).toInt)]],.int .i64 0,.int .i64 50,.int .i64 1,.int .i64 0]])] []).bind fun r9 =>
  (C 25 [.p (.int .i64 1048527),.p (.int .i64 0),.p (.int .i64 0)] []).bind fun r10 =>
  (C 13 [.p (.list true kSh [.agg [.int .i64 5,.list true kV3 [.agg [.int .i64 (((r10.1.headD .undef).pv.cell 0).toInt),.int .i64 (((r10.1.headD .undef).pv.cell 1).toInt),.int .i64 (((r10.1.headD .undef).pv.cell 2).toInt)]],.int .i64 0,.int .i64 50,.int .i64 1,.int .i64 0]])] []).bind fun r11 =>
  bif ((((r5.1.headD .undef).freshList.length:Nat):Int)==(4096:Int)) then
   bif ((r5.1.tail.headD .undef).pv.toInt==(0:Int)) then
    bif ((r7.1.tail.headD .undef).pv.toInt==(7:Int)) then
     bif ((r9.1.tail.headD .undef).pv.toInt==(7:Int)) then
      bif ((r11.1.tail.headD .undef).pv.toInt==(3:Int)) then
       (C 12 [] []).bind fun r12 =>
       some ([.p (.bool ((r12.1.headD .undef).pv.toBool))],[])
      else
       some ([.p (.bool false)],[])
     else
      some ([.p (.bool false)],[])
    else
     some ([.p (.bool false)],[])
   else
    some ([.p (.bool false)],[])
  else
   some ([.p (.bool false)],[]) else none:=by kernel_rfl
def S12_11111111010 (ring_o ring_l c_o c_l:Nat)(i':Int)(ring_b c_b:List PV):St:=⟨.undef::.undef::.undef::(.slice 3 6 ring_o ring_l)::.undef::.undef::.undef::.undef::(.slice 8 3 c_o c_l)::.undef::(.p (.int .i64 i'))::List.replicate 192 .undef,[(3,.arr true kSh ring_b),(8,.arr true kV3 c_b)]⟩
theorem e12 (C:CallF) :acallI tab C 12 [] [] =
 (C 25 [.p (.int .i64 3),.p (.int .i64 0),.p (.int .i64 0)] []).bind fun r1 =>
 (C 25 [.p (.int .i64 1),.p (.int .i64 0),.p (.int .i64 0)] []).bind fun r2 =>
 (C 25 [.p (.int .i64 3),.p (.int .i64 0),.p (.int .i64 0)] []).bind fun r3 =>
 (C 25 [.p (.int .i64 0),.p (.int .i64 0),.p (.int .i64 0)] []).bind fun r4 =>
 (C 25 [.p (.int .i64 3),.p (.int .i64 0),.p (.int .i64 0)] []).bind fun r5 =>
 (C 25 [.p (.int .i64 0),.p (.int .i64 0),.p (.int .i64 0)] []).bind fun r6 =>
 (C 13 [.p (.list true kSh [.agg [.int .i64 1,.list true kV3 [.agg [.int .i64 (((r1.1.headD .undef).pv.cell 0).toInt),.int .i64 (((r1.1.headD .undef).pv.cell 1).toInt),.int .i64 (((r1.1.headD .undef).pv.cell 2).toInt)],.agg [.int .i64 (((r2.1.headD .undef).pv.cell 0).toInt),.int .i64 (((r2.1.headD .undef).pv.cell 1).toInt),.int .i64 (((r2.1.headD .undef).pv.cell 2).toInt)],.agg [.int .i64 (((r3.1.headD .undef).pv.cell 0).toInt),.int .i64 (((r3.1.headD .undef).pv.cell 1).toInt),.int .i64 (((r3.1.headD .undef).pv.cell 2).toInt)]],.int .i64 0,.int .i64 0,.int .i64 0,.int .i64 0]])] []).bind fun r7 =>
 (C 13 [.p (.list true kSh [.agg [.int .i64 2,.list true kV3 [.agg [.int .i64 (((r4.1.headD .undef).pv.cell 0).toInt),.int .i64 (((r4.1.headD .undef).pv.cell 1).toInt),.int .i64 (((r4.1.headD .undef).pv.cell 2).toInt)],.agg [.int .i64 (((r5.1.headD .undef).pv.cell 0).toInt),.int .i64 (((r5.1.headD .undef).pv.cell 1).toInt),.int .i64 (((r5.1.headD .undef).pv.cell 2).toInt)]],.int .i64 2,.int .i64 0,.int .i64 0,.int .i64 0]])] []).bind fun r8 =>
 (C 13 [.p (.list true kSh [.agg [.int .i64 4,.list true kV3 [.agg [.int .i64 (((r6.1.headD .undef).pv.cell 0).toInt),.int .i64 (((r6.1.headD .undef).pv.cell 1).toInt),.int .i64 (((r6.1.headD .undef).pv.cell 2).toInt)]],.int .i64 0,.int .i64 1,.int .i64 10,.int .i64 1]])] []).bind fun r9 =>
 (C 25 [.p (.int .i64 1),.p (.int .i64 0),.p (.int .i64 0)] []).bind fun r10 =>
 (C 25 [.p (.int .i64 3),.p (.int .i64 0),.p (.int .i64 0)] []).bind fun r11 =>
 (C 16 [.p (.list true kV3 ((((r7.1.headD .undef).freshList).drop 0).take ((r7.1.headD .undef).freshList.length))),.p (.list true kV3 [.agg [.int .i64 (((r10.1.headD .undef).pv.cell 0).toInt),.int .i64 (((r10.1.headD .undef).pv.cell 1).toInt),.int .i64 (((r10.1.headD .undef).pv.cell 2).toInt)],.agg [.int .i64 (((r11.1.headD .undef).pv.cell 0).toInt),.int .i64 (((r11.1.headD .undef).pv.cell 1).toInt),.int .i64 (((r11.1.headD .undef).pv.cell 2).toInt)]])] []).bind fun r12 =>
 bif (!(r12.1.headD .undef).pv.toBool) then
  some ([.p (.bool false)],[])
 else
  bif ((r7.1.tail.headD .undef).pv.toInt != (0:Int)) then
   some ([.p (.bool false)],[])
  else
   (C 25 [.p (.int .i64 0),.p (.int .i64 0),.p (.int .i64 0)] []).bind fun r13 =>
   (C 25 [.p (.int .i64 2),.p (.int .i64 0),.p (.int .i64 0)] []).bind fun r14 =>
   (C 25 [.p (.int .i64 3),.p (.int .i64 0),.p (.int .i64 0)] []).bind fun r15 =>
   (C 16 [.p (.list true kV3 ((((r8.1.headD .undef).freshList).drop 0).take ((r8.1.headD .undef).freshList.length))),.p (.list true kV3 [.agg [.int .i64 (((r13.1.headD .undef).pv.cell 0).toInt),.int .i64 (((r13.1.headD .undef).pv.cell 1).toInt),.int .i64 (((r13.1.headD .undef).pv.cell 2).toInt)],.agg [.int .i64 (((r14.1.headD .undef).pv.cell 0).toInt),.int .i64 (((r14.1.headD .undef).pv.cell 1).toInt),.int .i64 (((r14.1.headD .undef).pv.cell 2).toInt)],.agg [.int .i64 (((r15.1.headD .undef).pv.cell 0).toInt),.int .i64 (((r15.1.headD .undef).pv.cell 1).toInt),.int .i64 (((r15.1.headD .undef).pv.cell 2).toInt)]])] []).bind fun r16 =>
   bif (!(r16.1.headD .undef).pv.toBool) then
    some ([.p (.bool false)],[])
   else
    bif ((r8.1.tail.headD .undef).pv.toInt != (0:Int)) then
     some ([.p (.bool false)],[])
    else
     bif ((((r9.1.headD .undef).freshList.length:Nat):Int) != (9:Int)) then
      some ([.p (.bool false)],[])
     else
      bif ((r9.1.tail.headD .undef).pv.toInt != (0:Int)) then
       some ([.p (.bool false)],[])
      else
       L tab C 12 [] [.lp [1,1,1,1,1,1,1,1,0,1,0]] (S12_11111111010 0 1 0 ((r9.1.headD .undef).freshList.length) 0 [.agg [.int .i64 4,.list true kV3 [.agg [.int .i64 (((r6.1.headD .undef).pv.cell 0).toInt),.int .i64 (((r6.1.headD .undef).pv.cell 1).toInt),.int .i64 (((r6.1.headD .undef).pv.cell 2).toInt)]],.int .i64 0,.int .i64 1,.int .i64 10,.int .i64 1]] ((r9.1.headD .undef).freshList)):=by kernel_rfl
theorem e12_11111111010 (C:CallF) (ring_o ring_l c_o c_l:Nat)(i':Int)(ring_b c_b:List PV):R tab C 12 [] [.lp [1,1,1,1,1,1,1,1,0,1,0]] (S12_11111111010 ring_o ring_l c_o c_l i' ring_b c_b) =
 bif (ltI i' (9:Int)) then
  bif ((leI (0:Int) i')&&(ltI i' (c_l:Int))) then(C 25 [.p (.int .i64 (IntKind.i64.wrap ((IntKind.i64.wrap ((10:Int)*(IntKind.i64.wrap (i'.tdiv (3:Int)))))-(10:Int)))),.p (.int .i64 0),.p (.int .i64 (IntKind.i64.wrap ((IntKind.i64.wrap ((10:Int)*(i'.tmod (3:Int))))-(10:Int))))] []).bind fun r1 =>
  bif (!((((c_b.getD (c_o+i'.toNat) .nil).cell 0).toInt==((r1.1.headD .undef).pv.cell 0).toInt)&&((((c_b.getD (c_o+i'.toNat) .nil).cell 1).toInt==((r1.1.headD .undef).pv.cell 1).toInt)&&((((c_b.getD (c_o+i'.toNat) .nil).cell 2).toInt==((r1.1.headD .undef).pv.cell 2).toInt)&&true)))) then
   some ([.p (.bool false)],[])
  else
   L tab C 12 [] [.lp [1,1,1,1,1,1,1,1,0,1,0]] (S12_11111111010 ring_o ring_l c_o c_l (IntKind.i64.wrap (i'+(1:Int))) ring_b c_b) else none
 else
  (C 17 [.p (.list true kSh ((ring_b.drop ring_o).take ring_l))] []).bind fun r2 =>
  bif (!(((r2.1.headD .undef).pv.toStr).toList==(⟨#[114,105,110,103,32,120,122,32,49,32,49,48,32,48,32,48,32,48,10]⟩:ByteArray).toList)) then
   some ([.p (.bool false)],[])
  else
   bif ((r2.1.tail.headD .undef).pv.toInt != (0:Int)) then
    some ([.p (.bool false)],[])
   else
    (C 19 [.p (.str ⟨#[100,111,116,115,32,49,32,50,32,51]⟩)] []).bind fun r3 =>
    (C 19 [.p (.str ⟨#[100,111,116,115,32,49,32,50,10]⟩)] []).bind fun r4 =>
    (C 19 [.p (.str ⟨#[]⟩)] []).bind fun r5 =>
    (C 19 [.p (.str ⟨#[108,111,111,112,32,50,32,48,32,48,32,48,32,49,32,48,32,48,10]⟩)] []).bind fun r6 =>
    bif ((r3.1.tail.headD .undef).pv.toInt != (1:Int)) then
     some ([.p (.bool false)],[])
    else
     bif ((r3.1.tail.tail.headD .undef).pv.toInt != (6:Int)) then
      some ([.p (.bool false)],[])
     else
      bif ((r4.1.tail.headD .undef).pv.toInt != (1:Int)) then
       some ([.p (.bool false)],[])
      else
       bif ((r4.1.tail.tail.headD .undef).pv.toInt != (6:Int)) then
        some ([.p (.bool false)],[])
       else
        bif ((((r5.1.headD .undef).freshList.length:Nat):Int) != (0:Int)) then
         some ([.p (.bool false)],[])
        else
         bif ((r5.1.tail.headD .undef).pv.toInt != (0:Int)) then
          some ([.p (.bool false)],[])
         else
          bif ((r5.1.tail.tail.headD .undef).pv.toInt != (0:Int)) then
           some ([.p (.bool false)],[])
          else
           bif ((r6.1.tail.headD .undef).pv.toInt != (1:Int)) then
            some ([.p (.bool false)],[])
           else
            bif ((r6.1.tail.tail.headD .undef).pv.toInt != (6:Int)) then
             some ([.p (.bool false)],[])
            else
             (C 25 [.p (.int .i64 1),.p (.int .i64 2),.p (.int .i64 3)] []).bind fun r7 =>
             (C 25 [.p (.int .i64 1),.p (.int .i64 (-1)),.p (.int .i64 0)] []).bind fun r8 =>
             (C 22 [.p (.list true kSh [.agg [.int .i64 1,.list true kV3 [.agg [.int .i64 (((r7.1.headD .undef).pv.cell 0).toInt),.int .i64 (((r7.1.headD .undef).pv.cell 1).toInt),.int .i64 (((r7.1.headD .undef).pv.cell 2).toInt)]],.int .i64 0,.int .i64 0,.int .i64 0,.int .i64 0]]),.p (.agg [.int .i64 (((r8.1.headD .undef).pv.cell 0).toInt),.int .i64 (((r8.1.headD .undef).pv.cell 1).toInt),.int .i64 (((r8.1.headD .undef).pv.cell 2).toInt)])] []).bind fun r9 =>
             (C 13 [.p (.list true kSh ((((r9.1.headD .undef).freshList).drop 0).take ((r9.1.headD .undef).freshList.length)))] []).bind fun r10 =>
             bif ((r9.1.tail.headD .undef).pv.toInt==(0:Int)) then
              bif ((r10.1.tail.headD .undef).pv.toInt==(0:Int)) then
               (C 25 [.p (.int .i64 2),.p (.int .i64 1),.p (.int .i64 3)] []).bind fun r11 =>
               (C 21 [.p (.list true kSh ((((r9.1.headD .undef).freshList).drop 0).take ((r9.1.headD .undef).freshList.length))),.p (.list true kSh [.agg [.int .i64 1,.list true kV3 [.agg [.int .i64 (((r11.1.headD .undef).pv.cell 0).toInt),.int .i64 (((r11.1.headD .undef).pv.cell 1).toInt),.int .i64 (((r11.1.headD .undef).pv.cell 2).toInt)]],.int .i64 0,.int .i64 0,.int .i64 0,.int .i64 0]])] []).bind fun r12 =>
               bif (r12.1.headD .undef).pv.toBool then
                (C 25 [.p (.int .i64 2),.p (.int .i64 1),.p (.int .i64 3)] []).bind fun r13 =>
                (C 16 [.p (.list true kV3 ((((r10.1.headD .undef).freshList).drop 0).take ((r10.1.headD .undef).freshList.length))),.p (.list true kV3 [.agg [.int .i64 (((r13.1.headD .undef).pv.cell 0).toInt),.int .i64 (((r13.1.headD .undef).pv.cell 1).toInt),.int .i64 (((r13.1.headD .undef).pv.cell 2).toInt)]])] []).bind fun r14 =>
                some ([.p (.bool ((r14.1.headD .undef).pv.toBool))],[])
               else
                some ([.p (.bool false)],[])
              else
               some ([.p (.bool false)],[])
             else
              some ([.p (.bool false)],[]):=by kernel_rfl
def S13_111010 (t12':List PV)(t13' t14' b3_b0:Int) (b11_b:List (PV × PV)):St:=⟨.undef::.undef::(.ptr 2 0 0)::(.ptr 3 0 0)::(.ptr 4 0 0)::.undef::.undef::.undef::.undef::.undef::.undef::.undef::(.p (.list true kSh t12'))::(.p (.int .i64 t13'))::(.p (.int .i64 t14'))::List.replicate 18 .undef,[(2,.box [.p (.nil)]),(3,.box [.p (.int .i64 b3_b0)]),(11,.mp 58 b11_b),(4,.box [.mref 11])]⟩
def S13_111010_1100110 (t12':List PV)(t13' t14':Int) (t19:PV) (b3_b0:Int) (b11_b:List (PV × PV)):St:=⟨.undef::.undef::(.ptr 2 0 0)::(.ptr 3 0 0)::(.ptr 4 0 0)::.undef::.undef::.undef::.undef::.undef::.undef::.undef::(.p (.list true kSh t12'))::(.p (.int .i64 t13'))::(.p (.int .i64 t14'))::.undef::.undef::.undef::.undef::(.p t19)::List.replicate 13 .undef,[(2,.box [.p (.nil)]),(3,.box [.p (.int .i64 b3_b0)]),(11,.mp 58 b11_b),(4,.box [.mref 11])]⟩
theorem e13 (C:CallF) (f:List PV):acallI tab C 13 [.p (.list true kSh f)] [] =
 (C 28 [.p (.list true kSh f)] []).bind fun r1 =>
 bif (!(r1.1.headD .undef).pv.toBool) then
  some ([.fresh true kV3 [],.p (.int .i64 2)],[])
 else
  L tab C 13 [] [.lp [1,1,1,0,1,0]] (S13_111010 f ((f.length:Nat):Int) 0 0 ([]:List (PV × PV))):=by kernel_rfl
theorem e13_111010 (C:CallF) (t12':List PV)(t13' t14' b3_b0:Int) (b11_b:List (PV × PV)):R tab C 13 [] [.lp [1,1,1,0,1,0]] (S13_111010 t12' t13' t14' b3_b0 b11_b) =
 bif (ltI t14' t13') then
  bif ((leI (0:Int) t14')&&(ltI t14' ((t12'.length:Nat):Int))) then(C 30 [.p (.agg [.int .i64 (((t12'.getD t14'.toNat .nil).cell 0).toInt),.list true kV3 (((t12'.getD t14'.toNat .nil).cell 1).toList),.int .i64 (((t12'.getD t14'.toNat .nil).cell 2).toInt),.int .i64 (((t12'.getD t14'.toNat .nil).cell 3).toInt),.int .i64 (((t12'.getD t14'.toNat .nil).cell 4).toInt),.int .i64 (((t12'.getD t14'.toNat .nil).cell 5).toInt)])] []).bind fun r1 =>
  bif (PV.isFn 92 [(true,[.slice true kV3])] ((r1.1.headD .undef).pv)) then
   (C 92 [.yld,.p (.ref [.list true kV3 ((((r1.1.headD .undef).pv.cap 0).rcell 0).toList)])] [.log true []]).bind fun r2 =>
   L tab C 13 [] [.lp [1,1,1,0,1,0],.rg [1,1,0,0,1,1,0] [(true,kV3)] (logOf r2.2)] (S13_111010_1100110 t12' t13' t14' (.fn 92 [.ref [.list true kV3 ((((r1.1.headD .undef).pv.cap 0).rcell 0).toList)]]) b3_b0 b11_b)
  else
   bif (PV.isFn 93 [(true,kSh)] ((r1.1.headD .undef).pv)) then
    (C 93 [.yld,.p (.ref [.int .i64 ((((r1.1.headD .undef).pv.cap 0).rcell 0).toInt),.list true kV3 ((((r1.1.headD .undef).pv.cap 0).rcell 1).toList),.int .i64 ((((r1.1.headD .undef).pv.cap 0).rcell 2).toInt),.int .i64 ((((r1.1.headD .undef).pv.cap 0).rcell 3).toInt),.int .i64 ((((r1.1.headD .undef).pv.cap 0).rcell 4).toInt),.int .i64 ((((r1.1.headD .undef).pv.cap 0).rcell 5).toInt)])] [.log true []]).bind fun r3 =>
    L tab C 13 [] [.lp [1,1,1,0,1,0],.rg [1,1,0,0,1,1,0] [(true,kV3)] (logOf r3.2)] (S13_111010_1100110 t12' t13' t14' (.fn 93 [.ref [.int .i64 ((((r1.1.headD .undef).pv.cap 0).rcell 0).toInt),.list true kV3 ((((r1.1.headD .undef).pv.cap 0).rcell 1).toList),.int .i64 ((((r1.1.headD .undef).pv.cap 0).rcell 2).toInt),.int .i64 ((((r1.1.headD .undef).pv.cap 0).rcell 3).toInt),.int .i64 ((((r1.1.headD .undef).pv.cap 0).rcell 4).toInt),.int .i64 ((((r1.1.headD .undef).pv.cap 0).rcell 5).toInt)]]) b3_b0 b11_b)
   else
    bif (PV.isFn 95 [(true,kSh)] ((r1.1.headD .undef).pv)) then(C 95 [.yld,.p (.ref [.int .i64 ((((r1.1.headD .undef).pv.cap 0).rcell 0).toInt),.list true kV3 ((((r1.1.headD .undef).pv.cap 0).rcell 1).toList),.int .i64 ((((r1.1.headD .undef).pv.cap 0).rcell 2).toInt),.int .i64 ((((r1.1.headD .undef).pv.cap 0).rcell 3).toInt),.int .i64 ((((r1.1.headD .undef).pv.cap 0).rcell 4).toInt),.int .i64 ((((r1.1.headD .undef).pv.cap 0).rcell 5).toInt)])] [.log true []]).bind fun r4 =>
    L tab C 13 [] [.lp [1,1,1,0,1,0],.rg [1,1,0,0,1,1,0] [(true,kV3)] (logOf r4.2)] (S13_111010_1100110 t12' t13' t14' (.fn 95 [.ref [.int .i64 ((((r1.1.headD .undef).pv.cap 0).rcell 0).toInt),.list true kV3 ((((r1.1.headD .undef).pv.cap 0).rcell 1).toList),.int .i64 ((((r1.1.headD .undef).pv.cap 0).rcell 2).toInt),.int .i64 ((((r1.1.headD .undef).pv.cap 0).rcell 3).toInt),.int .i64 ((((r1.1.headD .undef).pv.cap 0).rcell 4).toInt),.int .i64 ((((r1.1.headD .undef).pv.cap 0).rcell 5).toInt)]]) b3_b0 b11_b) else none else none
 else
  bif (gtI ((b11_b.length:Nat):Int) (4096:Int)) then
   some ([.fresh true kV3 [],.p (.int .i64 7)],[])
  else
   (C 33 [.p (.mapv (b11_b.map (fun x=>x.1)) (b11_b.map (fun x=>x.2)))] []).bind fun r5 =>
   (C 32 [.p (.fn 64 [.ref [(((r5.1.headD .undef).pv.cap 0).rcell 0)]]),.p (.fn 34 [])] []).bind fun r6 =>
   some ([.fresh true kV3 ((((r6.1.headD .undef).freshList).drop 0).take ((r6.1.headD .undef).freshList.length)),.p (.int .i64 0)],[]):=by kernel_rfl
theorem e13_111010_1100110_nil (C:CallF) (t12':List PV)(t13' t14':Int) (t19:PV) (b3_b0:Int) (b11_b:List (PV × PV)):L tab C 13 [] [.lp [1,1,1,0,1,0],.rg [1,1,0,0,1,1,0] [(true,kV3)] []] (S13_111010_1100110 t12' t13' t14' t19 b3_b0 b11_b) =
 L tab C 13 [] [.lp [1,1,1,0,1,0]] (S13_111010 t12' t13' (IntKind.i64.wrap (t14'+(1:Int))) b3_b0 b11_b):=by kernel_rfl
theorem e13_111010_1100110_cons (C:CallF) (t12':List PV)(t13' t14':Int) (t19:PV) (b3_b0:Int) (b11_b:List (PV × PV)) (y0_0 y0_1 y0_2:Int)(ys:List PV):L tab C 13 [] [.lp [1,1,1,0,1,0],.rg [1,1,0,0,1,1,0] [(true,kV3)] (.agg [.agg [.int .i64 y0_0,.int .i64 y0_1,.int .i64 y0_2]]::ys)] (S13_111010_1100110 t12' t13' t14' t19 b3_b0 b11_b) =
 (C 31 [.p (.agg [.int .i64 y0_0,.int .i64 y0_1,.int .i64 y0_2])] []).bind fun r1 =>
 bif (!(r1.1.headD .undef).pv.toBool) then
  some ([.fresh true kV3 [],.p (.int .i64 3)],[])
 else
  bif (mapFind tab 43 [.int .i64 y0_0,.int .i64 y0_1,.int .i64 y0_2] b11_b).isSome then L tab C 13 [] [.lp [1,1,1,0,1,0],.rg [1,1,0,0,1,1,0] [(true,kV3)] ys] (S13_111010_1100110 t12' t13' t14' t19 b3_b0 (mapPut b11_b (PV.agg [.int .i64 y0_0,.int .i64 y0_1,.int .i64 y0_2]) (PV.bool true) ((mapFind tab 43 [.int .i64 y0_0,.int .i64 y0_1,.int .i64 y0_2] b11_b).getD none))) else none:=by kernel_rfl
def S15_11010 (f':List PV)(all_o all_l:Nat)(i':Int)(all_b:List PV):St:=⟨(.p (.list true kSh f'))::.undef::.undef::.undef::(.slice 4 3 all_o all_l)::(.p (.int .i64 i'))::List.replicate 24 .undef,[(4,.arr true kV3 all_b)]⟩
theorem e15 (C:CallF) (f:List PV):acallI tab C 15 [.p (.list true kSh f)] [] =
 L tab C 15 [] [.lp [1,1,0,1,0]] (S15_11010 f 0 0 0 []):=by kernel_rfl
theorem e15_11010 (C:CallF) (f':List PV)(all_o all_l:Nat)(i':Int)(all_b:List PV):R tab C 15 [] [.lp [1,1,0,1,0]] (S15_11010 f' all_o all_l i' all_b) =
 bif (ltI i' ((f'.length:Nat):Int)) then
  bif ((leI (0:Int) i')&&(ltI i' ((f'.length:Nat):Int))) then(C 36 [.p (.agg [.int .i64 (((f'.getD i'.toNat .nil).cell 0).toInt),.list true kV3 (((f'.getD i'.toNat .nil).cell 1).toList),.int .i64 (((f'.getD i'.toNat .nil).cell 2).toInt),.int .i64 (((f'.getD i'.toNat .nil).cell 3).toInt),.int .i64 (((f'.getD i'.toNat .nil).cell 4).toInt),.int .i64 (((f'.getD i'.toNat .nil).cell 5).toInt)])] []).bind fun r1 =>
  bif (leN (all_l+((r1.1.headD .undef).pv.toList).length) 2147483648) then L tab C 15 [] [.lp [1,1,0,1,0]] (S15_11010 f' 0 (all_l+((r1.1.headD .undef).pv.toList).length) (IntKind.i64.wrap (i'+(1:Int))) (((all_b.drop all_o).take all_l)++((r1.1.headD .undef).pv.toList))) else none else none
 else
  (C 37 [.p (.list true kV3 ((all_b.drop all_o).take all_l))] []).bind fun r2 =>
  bif (!(r2.1.headD .undef).pv.toBool) then
   some ([.fresh true kV3 [],.p (.int .i64 3)],[])
  else
   (C 38 [.p (.list true kV3 ((all_b.drop all_o).take all_l))] []).bind fun r3 =>
   bif (gtI ((((r3.1.headD .undef).pv.toList).length:Nat):Int) (4096:Int)) then
    some ([.fresh true kV3 [],.p (.int .i64 7)],[])
   else
    bif (leN (((r3.1.headD .undef).pv.toList).length) 2147483648) then some ([.fresh true kV3 ((((r3.1.headD .undef).pv.toList).drop 0).take (((r3.1.headD .undef).pv.toList).length)),.p (.int .i64 0)],[]) else none:=by kernel_rfl
def S16_11010 (a' b':List PV)(i':Int):St:=⟨(.p (.list true kV3 a'))::(.p (.list true kV3 b'))::.undef::.undef::.undef::(.p (.int .i64 i'))::List.replicate 20 .undef,[]⟩
theorem e16 (C:CallF) (a b:List PV):acallI tab C 16 [.p (.list true kV3 a),.p (.list true kV3 b)] [] =
 bif (((a.length:Nat):Int) != ((b.length:Nat):Int)) then
  some ([.p (.bool false)],[])
 else
  L tab C 16 [] [.lp [1,1,0,1,0]] (S16_11010 a b 0):=by kernel_rfl
theorem e16_11010 (C:CallF) (a' b':List PV)(i':Int):R tab C 16 [] [.lp [1,1,0,1,0]] (S16_11010 a' b' i') =
 bif (ltI i' ((a'.length:Nat):Int)) then
  bif ((leI (0:Int) i')&&(ltI i' ((a'.length:Nat):Int))) then bif ((leI (0:Int) i')&&(ltI i' ((b'.length:Nat):Int))) then bif (!((((a'.getD i'.toNat .nil).cell 0).toInt==((b'.getD i'.toNat .nil).cell 0).toInt)&&((((a'.getD i'.toNat .nil).cell 1).toInt==((b'.getD i'.toNat .nil).cell 1).toInt)&&((((a'.getD i'.toNat .nil).cell 2).toInt==((b'.getD i'.toNat .nil).cell 2).toInt)&&true)))) then
   some ([.p (.bool false)],[])
  else
   L tab C 16 [] [.lp [1,1,0,1,0]] (S16_11010 a' b' (IntKind.i64.wrap (i'+(1:Int)))) else none else none
 else
  some ([.p (.bool true)],[]):=by kernel_rfl
def S17_111010 (t10':List PV)(t11' t12':Int):St:=⟨.undef::.undef::.undef::.undef::(.ptr 4 0 0)::.undef::.undef::.undef::.undef::.undef::(.p (.list true kSh t10'))::(.p (.int .i64 t11'))::(.p (.int .i64 t12'))::List.replicate 9 .undef,[(4,.tb 72 (.p (.nilp)) (.p (.nil)))]⟩
def S17_111010_s1 (t10':List PV)(t11' t12':Int)(b19_b:List PV):St:=⟨.undef::.undef::.undef::.undef::(.ptr 4 0 0)::.undef::.undef::.undef::.undef::.undef::(.p (.list true kSh t10'))::(.p (.int .i64 t11'))::(.p (.int .i64 t12'))::List.replicate 9 .undef,[(4,.tb 72 (.ptr 4 0 0) (.mref 19)),(19,.br 5 b19_b)]⟩
theorem e17 (C:CallF) (f:List PV):acallI tab C 17 [.p (.list true kSh f)] [] =
 (C 28 [.p (.list true kSh f)] []).bind fun r1 =>
 bif (!(r1.1.headD .undef).pv.toBool) then
  some ([.p (.str ⟨#[]⟩),.p (.int .i64 2)],[])
 else
  L tab C 17 [] [.lp [1,1,1,0,1,0]] (S17_111010 f ((f.length:Nat):Int) 0):=by kernel_rfl
theorem e17_111010 (C:CallF) (t10':List PV)(t11' t12':Int):R tab C 17 [] [.lp [1,1,1,0,1,0]] (S17_111010 t10' t11' t12') =
 bif (ltI t12' t11') then
  bif ((leI (0:Int) t12')&&(ltI t12' ((t10'.length:Nat):Int))) then(C 40 [.p (.agg [.int .i64 (((t10'.getD t12'.toNat .nil).cell 0).toInt),.list true kV3 (((t10'.getD t12'.toNat .nil).cell 1).toList),.int .i64 (((t10'.getD t12'.toNat .nil).cell 2).toInt),.int .i64 (((t10'.getD t12'.toNat .nil).cell 3).toInt),.int .i64 (((t10'.getD t12'.toNat .nil).cell 4).toInt),.int .i64 (((t10'.getD t12'.toNat .nil).cell 5).toInt)])] []).bind fun r1 =>
  bif (leN (((r1.1.headD .undef).pv.toStr).size+(⟨#[10]⟩:ByteArray).size) 4611686018427387904) then bif (leN (((r1.1.headD .undef).pv.toStr++(⟨#[10]⟩:ByteArray)).size) 2147483648) then L tab C 17 [] [.lp [1,1,1,0,1,0]] (S17_111010_s1 t10' t11' (IntKind.i64.wrap (t12'+(1:Int))) (strPVs ((r1.1.headD .undef).pv.toStr++(⟨#[10]⟩:ByteArray)))) else none else none else none
 else
  some ([.p (.str ⟨#[]⟩),.p (.int .i64 0)],[]):=by kernel_rfl
theorem e17_111010_s1 (C:CallF) (t10':List PV)(t11' t12':Int)(b19_b:List PV):R tab C 17 [] [.lp [1,1,1,0,1,0]] (S17_111010_s1 t10' t11' t12' b19_b) =
 bif (ltI t12' t11') then
  bif ((leI (0:Int) t12')&&(ltI t12' ((t10'.length:Nat):Int))) then(C 40 [.p (.agg [.int .i64 (((t10'.getD t12'.toNat .nil).cell 0).toInt),.list true kV3 (((t10'.getD t12'.toNat .nil).cell 1).toList),.int .i64 (((t10'.getD t12'.toNat .nil).cell 2).toInt),.int .i64 (((t10'.getD t12'.toNat .nil).cell 3).toInt),.int .i64 (((t10'.getD t12'.toNat .nil).cell 4).toInt),.int .i64 (((t10'.getD t12'.toNat .nil).cell 5).toInt)])] []).bind fun r1 =>
  bif (leN (((r1.1.headD .undef).pv.toStr).size+(⟨#[10]⟩:ByteArray).size) 4611686018427387904) then bif (leN (b19_b.length+((r1.1.headD .undef).pv.toStr++(⟨#[10]⟩:ByteArray)).size) 2147483648) then L tab C 17 [] [.lp [1,1,1,0,1,0]] (S17_111010_s1 t10' t11' (IntKind.i64.wrap (t12'+(1:Int))) (b19_b++(strPVs ((r1.1.headD .undef).pv.toStr++(⟨#[10]⟩:ByteArray))))) else none else none else none
 else
  bif (leN b19_b.length 2147483648) then bif (b19_b.all PV.isByte) then some ([.p (.str (bytesOf b19_b)),.p (.int .i64 0)],[]) else none else none:=by kernel_rfl
def S19_11010 (s':ByteArray)(f_o f_l:Nat)(number':Int)(f_b:List PV):St:=⟨(.p (.str s'))::.undef::.undef::.undef::.undef::(.slice 5 6 f_o f_l)::(.p (.int .i64 number'))::List.replicate 36 .undef,[(5,.arr true kSh f_b)]⟩
theorem e19 (C:CallF) (s:ByteArray):acallI tab C 19 [.p (.str s)] [] =
 L tab C 19 [] [.lp [1,1,0,1,0]] (S19_11010 s 0 0 1 []):=by kernel_rfl
theorem e19_11010 (C:CallF) (s':ByteArray)(f_o f_l:Nat)(number':Int)(f_b:List PV):R tab C 19 [] [.lp [1,1,0,1,0]] (S19_11010 s' f_o f_l number' f_b) =
 bif (!(s'.toList==(⟨#[]⟩:ByteArray).toList)) then
  bif (gtI number' (50:Int)) then
   some ([.fresh true kSh [],.p (.int .i64 number'),.p (.int .i64 7)],[])
  else
   (C 43 [.p (.str s'),.p (.str ⟨#[10]⟩)] []).bind fun r1 =>
   (C 44 [.p (.str ((r1.1.headD .undef).pv.toStr))] []).bind fun r2 =>
   bif (!(r2.1.tail.headD .undef).pv.toBool) then
    some ([.fresh true kSh [],.p (.int .i64 number'),.p (.int .i64 6)],[])
   else
    bif (!(r1.1.tail.tail.headD .undef).pv.toBool) then
     some ([.fresh true kSh [],.p (.int .i64 number'),.p (.int .i64 6)],[])
    else
     bif (leN (f_l+1) 2147483648) then L tab C 19 [] [.lp [1,1,0,1,0]] (S19_11010 ((r1.1.tail.headD .undef).pv.toStr) 0 (f_l+1) (IntKind.i64.wrap (number'+(1:Int))) (((f_b.drop f_o).take f_l)++([.agg [.int .i64 (((r2.1.headD .undef).pv.cell 0).toInt),.list true kV3 (((r2.1.headD .undef).pv.cell 1).toList),.int .i64 (((r2.1.headD .undef).pv.cell 2).toInt),.int .i64 (((r2.1.headD .undef).pv.cell 3).toInt),.int .i64 (((r2.1.headD .undef).pv.cell 4).toInt),.int .i64 (((r2.1.headD .undef).pv.cell 5).toInt)]]:List PV))) else none
 else
  some ([.fresh true kSh ((f_b.drop f_o).take f_l),.p (.int .i64 0),.p (.int .i64 0)],[]):=by kernel_rfl
def S21_11010 (a' b':List PV)(i':Int):St:=⟨(.p (.list true kSh a'))::(.p (.list true kSh b'))::.undef::.undef::.undef::(.p (.int .i64 i'))::List.replicate 62 .undef,[]⟩
theorem e21 (C:CallF) (a b:List PV):acallI tab C 21 [.p (.list true kSh a),.p (.list true kSh b)] [] =
 bif (((a.length:Nat):Int) != ((b.length:Nat):Int)) then
  some ([.p (.bool false)],[])
 else
  L tab C 21 [] [.lp [1,1,0,1,0]] (S21_11010 a b 0):=by kernel_rfl
theorem e21_11010 (C:CallF) (a' b':List PV)(i':Int):R tab C 21 [] [.lp [1,1,0,1,0]] (S21_11010 a' b' i') =
 bif (ltI i' ((a'.length:Nat):Int)) then
  bif ((leI (0:Int) i')&&(ltI i' ((a'.length:Nat):Int))) then bif ((leI (0:Int) i')&&(ltI i' ((b'.length:Nat):Int))) then bif (((a'.getD i'.toNat .nil).cell 0).toInt != ((b'.getD i'.toNat .nil).cell 0).toInt) then
   some ([.p (.bool false)],[])
  else
   bif (((a'.getD i'.toNat .nil).cell 2).toInt != ((b'.getD i'.toNat .nil).cell 2).toInt) then
    some ([.p (.bool false)],[])
   else
    bif (((a'.getD i'.toNat .nil).cell 3).toInt != ((b'.getD i'.toNat .nil).cell 3).toInt) then
     some ([.p (.bool false)],[])
    else
     bif (((a'.getD i'.toNat .nil).cell 4).toInt != ((b'.getD i'.toNat .nil).cell 4).toInt) then
      some ([.p (.bool false)],[])
     else
      bif (((a'.getD i'.toNat .nil).cell 5).toInt != ((b'.getD i'.toNat .nil).cell 5).toInt) then
       some ([.p (.bool false)],[])
      else
       (C 16 [.p (.list true kV3 (((a'.getD i'.toNat .nil).cell 1).toList)),.p (.list true kV3 (((b'.getD i'.toNat .nil).cell 1).toList))] []).bind fun r1 =>
       bif (!(r1.1.headD .undef).pv.toBool) then
        some ([.p (.bool false)],[])
       else
        L tab C 21 [] [.lp [1,1,0,1,0]] (S21_11010 a' b' (IntKind.i64.wrap (i'+(1:Int)))) else none else none
 else
  some ([.p (.bool true)],[]):=by kernel_rfl
def S22_111010 (out_o out_l:Nat)(t21':List PV)(t22' t23' by_b0 by_b1 by_b2:Int)(out_b:List PV):St:=⟨.undef::.undef::.undef::(.ptr 3 0 0)::.undef::.undef::(.slice 6 6 out_o out_l)::.undef::.undef::.undef::.undef::.undef::.undef::.undef::.undef::.undef::.undef::.undef::.undef::.undef::.undef::(.p (.list true kSh t21'))::(.p (.int .i64 t22'))::(.p (.int .i64 t23'))::List.replicate 40 .undef,[(3,.box [.p (.int .i64 by_b0),.p (.int .i64 by_b1),.p (.int .i64 by_b2)]),(6,.arr true kSh out_b)]⟩
def S22_111010_110011010 (out_o out_l:Nat)(t21':List PV)(t22' t23':Int)(t32_o t32_l:Nat)(t33' t34' by_b0 by_b1 by_b2:Int)(out_b:List PV)(s_b0:Int)(s_b1_o s_b1_l:Nat)(s_b2 s_b3 s_b4 s_b5:Int)(b29_b:List PV):St:=⟨.undef::.undef::.undef::(.ptr 3 0 0)::.undef::.undef::(.slice 6 6 out_o out_l)::.undef::(.ptr 8 0 0)::.undef::.undef::.undef::.undef::.undef::.undef::.undef::.undef::.undef::.undef::.undef::.undef::(.p (.list true kSh t21'))::(.p (.int .i64 t22'))::(.p (.int .i64 t23'))::.undef::.undef::.undef::.undef::.undef::.undef::.undef::.undef::(.slice 29 3 t32_o t32_l)::(.p (.int .i64 t33'))::(.p (.int .i64 t34'))::List.replicate 29 .undef,[(3,.box [.p (.int .i64 by_b0),.p (.int .i64 by_b1),.p (.int .i64 by_b2)]),(6,.arr true kSh out_b),(8,.box [.p (.int .i64 s_b0),.slice 29 3 s_b1_o s_b1_l,.p (.int .i64 s_b2),.p (.int .i64 s_b3),.p (.int .i64 s_b4),.p (.int .i64 s_b5)]),(29,.arr true kV3 b29_b)]⟩
theorem e22 (C:CallF) (f:List PV)(by__0 by__1 by__2:Int):acallI tab C 22 [.p (.list true kSh f),.p (.agg [.int .i64 by__0,.int .i64 by__1,.int .i64 by__2])] [] =
 (C 28 [.p (.list true kSh f)] []).bind fun r1 =>
 bif (!(r1.1.headD .undef).pv.toBool) then
  some ([.fresh true kSh [],.p (.int .i64 2)],[])
 else
  (C 47 [.p (.agg [.int .i64 by__0,.int .i64 by__1,.int .i64 by__2])] []).bind fun r2 =>
  bif (!(r2.1.headD .undef).pv.toBool) then
   some ([.fresh true kSh [],.p (.int .i64 2)],[])
  else
   L tab C 22 [] [.lp [1,1,1,0,1,0]] (S22_111010 0 0 f ((f.length:Nat):Int) 0 by__0 by__1 by__2 []):=by kernel_rfl
theorem e22_111010 (C:CallF) (out_o out_l:Nat)(t21':List PV)(t22' t23' by_b0 by_b1 by_b2:Int)(out_b:List PV):R tab C 22 [] [.lp [1,1,1,0,1,0]] (S22_111010 out_o out_l t21' t22' t23' by_b0 by_b1 by_b2 out_b) =
 bif (ltI t23' t22') then
  bif ((leI (0:Int) t23')&&(ltI t23' ((t21'.length:Nat):Int))) then(C 48 [.p (.list true kV3 (((t21'.getD t23'.toNat .nil).cell 1).toList))] []).bind fun r1 =>
  L tab C 22 [] [.lp [1,1,1,0,1,0],.lp [1,1,0,0,1,1,0,1,0]] (S22_111010_110011010 out_o out_l t21' t22' t23' 0 ((r1.1.headD .undef).freshList.length) (((r1.1.headD .undef).freshList.length:Nat):Int) 0 by_b0 by_b1 by_b2 out_b (((t21'.getD t23'.toNat .nil).cell 0).toInt) 0 ((r1.1.headD .undef).freshList.length) (((t21'.getD t23'.toNat .nil).cell 2).toInt) (((t21'.getD t23'.toNat .nil).cell 3).toInt) (((t21'.getD t23'.toNat .nil).cell 4).toInt) (((t21'.getD t23'.toNat .nil).cell 5).toInt) ((r1.1.headD .undef).freshList)) else none
 else
  some ([.fresh true kSh ((out_b.drop out_o).take out_l),.p (.int .i64 0)],[]):=by kernel_rfl
theorem e22_111010_110011010 (C:CallF) (out_o out_l:Nat)(t21':List PV)(t22' t23':Int)(t32_o t32_l:Nat)(t33' t34' by_b0 by_b1 by_b2:Int)(out_b:List PV)(s_b0:Int)(s_b1_o s_b1_l:Nat)(s_b2 s_b3 s_b4 s_b5:Int)(b29_b:List PV):R tab C 22 [] [.lp [1,1,1,0,1,0],.lp [1,1,0,0,1,1,0,1,0]] (S22_111010_110011010 out_o out_l t21' t22' t23' t32_o t32_l t33' t34' by_b0 by_b1 by_b2 out_b s_b0 s_b1_o s_b1_l s_b2 s_b3 s_b4 s_b5 b29_b) =
 bif (ltI t34' t33') then
  bif ((leI (0:Int) t34')&&(ltI t34' (t32_l:Int))) then(C 49 [.p (.agg [.int .i64 (((b29_b.getD (t32_o+t34'.toNat) .nil).cell 0).toInt),.int .i64 (((b29_b.getD (t32_o+t34'.toNat) .nil).cell 1).toInt),.int .i64 (((b29_b.getD (t32_o+t34'.toNat) .nil).cell 2).toInt)]),.p (.agg [.int .i64 by_b0,.int .i64 by_b1,.int .i64 by_b2])] []).bind fun r1 =>
  bif ((r1.1.tail.headD .undef).pv.toInt != (0:Int)) then
   some ([.fresh true kSh [],.p (.int .i64 3)],[])
  else
   (C 31 [.p (.agg [.int .i64 (((r1.1.headD .undef).pv.cell 0).toInt),.int .i64 (((r1.1.headD .undef).pv.cell 1).toInt),.int .i64 (((r1.1.headD .undef).pv.cell 2).toInt)])] []).bind fun r2 =>
   bif (!(r2.1.headD .undef).pv.toBool) then
    some ([.fresh true kSh [],.p (.int .i64 3)],[])
   else
    bif ((leI (0:Int) t34')&&(ltI t34' (s_b1_l:Int))) then L tab C 22 [] [.lp [1,1,1,0,1,0],.lp [1,1,0,0,1,1,0,1,0]] (S22_111010_110011010 out_o out_l t21' t22' t23' t32_o t32_l t33' (IntKind.i64.wrap (t34'+(1:Int))) by_b0 by_b1 by_b2 out_b s_b0 s_b1_o s_b1_l s_b2 s_b3 s_b4 s_b5 (b29_b.set (s_b1_o+t34'.toNat) (PV.agg [.int .i64 (((r1.1.headD .undef).pv.cell 0).toInt),.int .i64 (((r1.1.headD .undef).pv.cell 1).toInt),.int .i64 (((r1.1.headD .undef).pv.cell 2).toInt)]))) else none else none
 else
  bif (leN (out_l+1) 2147483648) then L tab C 22 [] [.lp [1,1,1,0,1,0]] (S22_111010 0 (out_l+1) t21' t22' (IntKind.i64.wrap (t23'+(1:Int))) by_b0 by_b1 by_b2 (((out_b.drop out_o).take out_l)++([.agg [.int .i64 s_b0,.list true kV3 ((b29_b.drop s_b1_o).take s_b1_l),.int .i64 s_b2,.int .i64 s_b3,.int .i64 s_b4,.int .i64 s_b5]]:List PV))) else none:=by kernel_rfl
theorem e25 (C:CallF) (x y z:Int):acallI tab C 25 [.p (.int .i64 x),.p (.int .i64 y),.p (.int .i64 z)] [] =
 some ([.p (.agg [.int .i64 x,.int .i64 y,.int .i64 z])],[]):=by kernel_rfl
theorem e26 (C:CallF) (a_0 a_1 a_2 b_0 b_1 b_2:Int):acallI tab C 26 [.p (.agg [.int .i64 a_0,.int .i64 a_1,.int .i64 a_2]),.p (.agg [.int .i64 b_0,.int .i64 b_1,.int .i64 b_2])] [] =
 some ([.p (.agg [.int .i64 (IntKind.i64.wrap (a_0+b_0)),.int .i64 (IntKind.i64.wrap (a_1+b_1)),.int .i64 (IntKind.i64.wrap (a_2+b_2))])],[]):=by kernel_rfl
theorem e27 (C:CallF) (a_0 a_1 a_2 b_0 b_1 b_2:Int):acallI tab C 27 [.p (.agg [.int .i64 a_0,.int .i64 a_1,.int .i64 a_2]),.p (.agg [.int .i64 b_0,.int .i64 b_1,.int .i64 b_2])] [] =
 (C 51 [.p (.agg [.int .i64 b_0,.int .i64 b_1,.int .i64 b_2])] []).bind fun r1 =>
 (C 26 [.p (.agg [.int .i64 a_0,.int .i64 a_1,.int .i64 a_2]),.p (.agg [.int .i64 (((r1.1.headD .undef).pv.cell 0).toInt),.int .i64 (((r1.1.headD .undef).pv.cell 1).toInt),.int .i64 (((r1.1.headD .undef).pv.cell 2).toInt)])] []).bind fun r2 =>
 some ([.p (.agg [.int .i64 (((r2.1.headD .undef).pv.cell 0).toInt),.int .i64 (((r2.1.headD .undef).pv.cell 1).toInt),.int .i64 (((r2.1.headD .undef).pv.cell 2).toInt)])],[]):=by kernel_rfl
theorem e28 (C:CallF) (f:List PV):acallI tab C 28 [.p (.list true kSh f)] [] =
 bif (leI ((f.length:Nat):Int) (50:Int)) then
  (C 52 [.p (.list true kSh f),.p (.fn 53 [])] []).bind fun r1 =>
  some ([.p (.bool (!(r1.1.headD .undef).pv.toBool))],[])
 else
  some ([.p (.bool false)],[]):=by kernel_rfl
theorem e30 (C:CallF) (s_0:Int)(s_1:List PV)(s_2 s_3 s_4 s_5:Int):acallI tab C 30 [.p (.agg [.int .i64 s_0,.list true kV3 s_1,.int .i64 s_2,.int .i64 s_3,.int .i64 s_4,.int .i64 s_5])] [] =
 bif (s_0==(1:Int)) then
  (C 58 [.p (.list true kV3 s_1)] []).bind fun r1 =>
  some ([.p (.fn 92 [.ref [.list true kV3 ((((r1.1.headD .undef).pv.cap 0).rcell 0).toList)]])],[])
 else
  bif (s_0==(2:Int)) then
   bif (s_0==(2:Int)) then
    (C 59 [.p (.agg [.int .i64 s_0,.list true kV3 s_1,.int .i64 s_2,.int .i64 s_3,.int .i64 s_4,.int .i64 s_5])] []).bind fun r2 =>
    some ([.p (.fn 93 [.ref [.int .i64 ((((r2.1.headD .undef).pv.cap 0).rcell 0).toInt),.list true kV3 ((((r2.1.headD .undef).pv.cap 0).rcell 1).toList),.int .i64 ((((r2.1.headD .undef).pv.cap 0).rcell 2).toInt),.int .i64 ((((r2.1.headD .undef).pv.cap 0).rcell 3).toInt),.int .i64 ((((r2.1.headD .undef).pv.cap 0).rcell 4).toInt),.int .i64 ((((r2.1.headD .undef).pv.cap 0).rcell 5).toInt)]])],[])
   else
    (C 60 [.p (.agg [.int .i64 s_0,.list true kV3 s_1,.int .i64 s_2,.int .i64 s_3,.int .i64 s_4,.int .i64 s_5])] []).bind fun r3 =>
    some ([.p (.fn 95 [.ref [.int .i64 ((((r3.1.headD .undef).pv.cap 0).rcell 0).toInt),.list true kV3 ((((r3.1.headD .undef).pv.cap 0).rcell 1).toList),.int .i64 ((((r3.1.headD .undef).pv.cap 0).rcell 2).toInt),.int .i64 ((((r3.1.headD .undef).pv.cap 0).rcell 3).toInt),.int .i64 ((((r3.1.headD .undef).pv.cap 0).rcell 4).toInt),.int .i64 ((((r3.1.headD .undef).pv.cap 0).rcell 5).toInt)]])],[])
  else
   bif (s_0==(3:Int)) then
    (C 59 [.p (.agg [.int .i64 s_0,.list true kV3 s_1,.int .i64 s_2,.int .i64 s_3,.int .i64 s_4,.int .i64 s_5])] []).bind fun r4 =>
    some ([.p (.fn 93 [.ref [.int .i64 ((((r4.1.headD .undef).pv.cap 0).rcell 0).toInt),.list true kV3 ((((r4.1.headD .undef).pv.cap 0).rcell 1).toList),.int .i64 ((((r4.1.headD .undef).pv.cap 0).rcell 2).toInt),.int .i64 ((((r4.1.headD .undef).pv.cap 0).rcell 3).toInt),.int .i64 ((((r4.1.headD .undef).pv.cap 0).rcell 4).toInt),.int .i64 ((((r4.1.headD .undef).pv.cap 0).rcell 5).toInt)]])],[])
   else
    (C 60 [.p (.agg [.int .i64 s_0,.list true kV3 s_1,.int .i64 s_2,.int .i64 s_3,.int .i64 s_4,.int .i64 s_5])] []).bind fun r5 =>
    some ([.p (.fn 95 [.ref [.int .i64 ((((r5.1.headD .undef).pv.cap 0).rcell 0).toInt),.list true kV3 ((((r5.1.headD .undef).pv.cap 0).rcell 1).toList),.int .i64 ((((r5.1.headD .undef).pv.cap 0).rcell 2).toInt),.int .i64 ((((r5.1.headD .undef).pv.cap 0).rcell 3).toInt),.int .i64 ((((r5.1.headD .undef).pv.cap 0).rcell 4).toInt),.int .i64 ((((r5.1.headD .undef).pv.cap 0).rcell 5).toInt)]])],[]):=by kernel_rfl
theorem e31 (C:CallF) (v_0 v_1 v_2:Int):acallI tab C 31 [.p (.agg [.int .i64 v_0,.int .i64 v_1,.int .i64 v_2])] [] =
 (C 61 [.p (.int .i64 1048576),.p (.list false [.int .i64] [.int .i64 v_0,.int .i64 v_1,.int .i64 v_2])] []).bind fun r1 =>
 some ([.p (.bool ((r1.1.headD .undef).pv.toBool))],[]):=by kernel_rfl
theorem e33 (C:CallF) (mk mv:List PV):acallI tab C 33 [.p (.mapv mk mv)] [] =
 some ([.p (.fn 64 [.ref [.mapv mk mv]])],[]):=by kernel_rfl
theorem e34 (C:CallF) (a_0 a_1 a_2 b_0 b_1 b_2:Int):acallI tab C 34 [.p (.agg [.int .i64 a_0,.int .i64 a_1,.int .i64 a_2]),.p (.agg [.int .i64 b_0,.int .i64 b_1,.int .i64 b_2])] [] =
 (C 65 [.p (.agg [.int .i64 a_0,.int .i64 a_1,.int .i64 a_2])] []).bind fun r1 =>
 (C 65 [.p (.agg [.int .i64 b_0,.int .i64 b_1,.int .i64 b_2])] []).bind fun r2 =>
 (C 66 [.p (.list false [.int .i64] [.int .i64 (((r1.1.headD .undef).pv.cell 0).toInt),.int .i64 (((r1.1.headD .undef).pv.cell 1).toInt),.int .i64 (((r1.1.headD .undef).pv.cell 2).toInt)]),.p (.list false [.int .i64] [.int .i64 (((r2.1.headD .undef).pv.cell 0).toInt),.int .i64 (((r2.1.headD .undef).pv.cell 1).toInt),.int .i64 (((r2.1.headD .undef).pv.cell 2).toInt)])] []).bind fun r3 =>
 some ([.p (.int .i64 ((r3.1.headD .undef).pv.toInt))],[]):=by kernel_rfl
def S36_1110101110010 (out_o out_l:Nat)(c':List PV)(i' s_b0:Int)(s_b1:List PV)(s_b2 s_b3 s_b4 s_b5:Int)(out_b:List PV):St:=⟨.undef::(.ptr 1 0 0)::.undef::(.slice 3 3 out_o out_l)::(.p (.list true kV3 c'))::(.p (.int .i64 i'))::List.replicate 155 .undef,[(1,.box [.p (.int .i64 s_b0),.p (.list true kV3 s_b1),.p (.int .i64 s_b2),.p (.int .i64 s_b3),.p (.int .i64 s_b4),.p (.int .i64 s_b5)]),(3,.arr true kV3 out_b)]⟩
def S36_11111010 (out_o out_l:Nat)(c':List PV)(r_' i' s_b0:Int)(s_b1:List PV)(s_b2 s_b3 s_b4 s_b5:Int)(out_b:List PV):St:=⟨.undef::(.ptr 1 0 0)::.undef::(.slice 3 3 out_o out_l)::(.p (.list true kV3 c'))::.undef::(.p (.int .i64 r_'))::(.p (.int .i64 i'))::List.replicate 153 .undef,[(1,.box [.p (.int .i64 s_b0),.p (.list true kV3 s_b1),.p (.int .i64 s_b2),.p (.int .i64 s_b3),.p (.int .i64 s_b4),.p (.int .i64 s_b5)]),(3,.arr true kV3 out_b)]⟩
def S36_11111010_10010 (out_o out_l:Nat)(c':List PV)(r_' i' j' s_b0:Int)(s_b1:List PV)(s_b2 s_b3 s_b4 s_b5:Int)(out_b:List PV):St:=⟨.undef::(.ptr 1 0 0)::.undef::(.slice 3 3 out_o out_l)::(.p (.list true kV3 c'))::.undef::(.p (.int .i64 r_'))::(.p (.int .i64 i'))::(.p (.int .i64 j'))::List.replicate 152 .undef,[(1,.box [.p (.int .i64 s_b0),.p (.list true kV3 s_b1),.p (.int .i64 s_b2),.p (.int .i64 s_b3),.p (.int .i64 s_b4),.p (.int .i64 s_b5)]),(3,.arr true kV3 out_b)]⟩
def S36_11111010_10010_100110 (out_o out_l:Nat)(c':List PV)(r_' i' j' k' s_b0:Int)(s_b1:List PV)(s_b2 s_b3 s_b4 s_b5:Int)(out_b:List PV):St:=⟨.undef::(.ptr 1 0 0)::.undef::(.slice 3 3 out_o out_l)::(.p (.list true kV3 c'))::.undef::(.p (.int .i64 r_'))::(.p (.int .i64 i'))::(.p (.int .i64 j'))::.undef::.undef::.undef::(.p (.int .i64 k'))::List.replicate 148 .undef,[(1,.box [.p (.int .i64 s_b0),.p (.list true kV3 s_b1),.p (.int .i64 s_b2),.p (.int .i64 s_b3),.p (.int .i64 s_b4),.p (.int .i64 s_b5)]),(3,.arr true kV3 out_b)]⟩
theorem e36 (C:CallF) (s_0:Int)(s_1:List PV)(s_2 s_3 s_4 s_5:Int):acallI tab C 36 [.p (.agg [.int .i64 s_0,.list true kV3 s_1,.int .i64 s_2,.int .i64 s_3,.int .i64 s_4,.int .i64 s_5])] [] =
 bif (s_0==(1:Int)) then
  some ([.p (.list true kV3 s_1)],[])
 else
  bif (s_0==(2:Int)) then
   bif (s_0==(2:Int)) then
    L tab C 36 [] [.lp [1,1,1,0,1,0,1,1,1,0,0,1,0]] (S36_1110101110010 0 0 s_1 0 s_0 s_1 s_2 s_3 s_4 s_5 [])
   else
    L tab C 36 [] [.lp [1,1,1,1,1,0,1,0]] (S36_11111010 0 0 s_1 s_3 (IntKind.i64.wrap (0-s_3)) s_0 s_1 s_2 s_3 s_4 s_5 [])
  else
   bif (s_0==(3:Int)) then
    L tab C 36 [] [.lp [1,1,1,0,1,0,1,1,1,0,0,1,0]] (S36_1110101110010 0 0 s_1 0 s_0 s_1 s_2 s_3 s_4 s_5 [])
   else
    L tab C 36 [] [.lp [1,1,1,1,1,0,1,0]] (S36_11111010 0 0 s_1 s_3 (IntKind.i64.wrap (0-s_3)) s_0 s_1 s_2 s_3 s_4 s_5 []):=by kernel_rfl
theorem e36_1110101110010 (C:CallF) (out_o out_l:Nat)(c':List PV)(i' s_b0:Int)(s_b1:List PV)(s_b2 s_b3 s_b4 s_b5:Int)(out_b:List PV):R tab C 36 [] [.lp [1,1,1,0,1,0,1,1,1,0,0,1,0]] (S36_1110101110010 out_o out_l c' i' s_b0 s_b1 s_b2 s_b3 s_b4 s_b5 out_b) =
 bif (ltI (IntKind.i64.wrap (i'+(1:Int))) ((c'.length:Nat):Int)) then
  bif ((leI (0:Int) i')&&(ltI i' ((c'.length:Nat):Int))) then bif ((leI (0:Int) (IntKind.i64.wrap (i'+(1:Int))))&&(ltI (IntKind.i64.wrap (i'+(1:Int))) ((c'.length:Nat):Int))) then(C 68 [.p (.agg [.int .i64 (((c'.getD i'.toNat .nil).cell 0).toInt),.int .i64 (((c'.getD i'.toNat .nil).cell 1).toInt),.int .i64 (((c'.getD i'.toNat .nil).cell 2).toInt)]),.p (.agg [.int .i64 (((c'.getD ((IntKind.i64.wrap (i'+(1:Int))).toNat) .nil).cell 0).toInt),.int .i64 (((c'.getD ((IntKind.i64.wrap (i'+(1:Int))).toNat) .nil).cell 1).toInt),.int .i64 (((c'.getD ((IntKind.i64.wrap (i'+(1:Int))).toNat) .nil).cell 2).toInt)]),.p (.int .i64 s_b2)] []).bind fun r1 =>
  bif (leN (out_l+(r1.1.headD .undef).freshList.length) 2147483648) then L tab C 36 [] [.lp [1,1,1,0,1,0,1,1,1,0,0,1,0]] (S36_1110101110010 0 (out_l+(r1.1.headD .undef).freshList.length) c' (IntKind.i64.wrap (i'+(1:Int))) s_b0 s_b1 s_b2 s_b3 s_b4 s_b5 (((out_b.drop out_o).take out_l)++((((r1.1.headD .undef).freshList).drop 0).take ((r1.1.headD .undef).freshList.length)))) else none else none else none
 else
  bif (s_b0==(3:Int)) then
   bif ((leI (0:Int) (IntKind.i64.wrap (((c'.length:Nat):Int)-(1:Int))))&&(ltI (IntKind.i64.wrap (((c'.length:Nat):Int)-(1:Int))) ((c'.length:Nat):Int))) then bif (ltI (0:Int) ((c'.length:Nat):Int)) then(C 68 [.p (.agg [.int .i64 (((c'.getD ((IntKind.i64.wrap (((c'.length:Nat):Int)-(1:Int))).toNat) .nil).cell 0).toInt),.int .i64 (((c'.getD ((IntKind.i64.wrap (((c'.length:Nat):Int)-(1:Int))).toNat) .nil).cell 1).toInt),.int .i64 (((c'.getD ((IntKind.i64.wrap (((c'.length:Nat):Int)-(1:Int))).toNat) .nil).cell 2).toInt)]),.p (.agg [.int .i64 (((c'.getD 0 .nil).cell 0).toInt),.int .i64 (((c'.getD 0 .nil).cell 1).toInt),.int .i64 (((c'.getD 0 .nil).cell 2).toInt)]),.p (.int .i64 s_b2)] []).bind fun r2 =>
   bif (leN (out_l+(r2.1.headD .undef).freshList.length) 2147483648) then some ([.p (.list true kV3 (((((out_b.drop out_o).take out_l)++((((r2.1.headD .undef).freshList).drop 0).take ((r2.1.headD .undef).freshList.length))).drop 0).take (out_l+(r2.1.headD .undef).freshList.length)))],[]) else none else none else none
  else
   some ([.p (.list true kV3 ((out_b.drop out_o).take out_l))],[]):=by kernel_rfl
theorem e36_11111010 (C:CallF) (out_o out_l:Nat)(c':List PV)(r_' i' s_b0:Int)(s_b1:List PV)(s_b2 s_b3 s_b4 s_b5:Int)(out_b:List PV):R tab C 36 [] [.lp [1,1,1,1,1,0,1,0]] (S36_11111010 out_o out_l c' r_' i' s_b0 s_b1 s_b2 s_b3 s_b4 s_b5 out_b) =
 bif (leI i' r_') then
  L tab C 36 [] [.lp [1,1,1,1,1,0,1,0],.lp [1,0,0,1,0]] (S36_11111010_10010 out_o out_l c' r_' i' (IntKind.i64.wrap (0-r_')) s_b0 s_b1 s_b2 s_b3 s_b4 s_b5 out_b)
 else
  some ([.p (.list true kV3 ((out_b.drop out_o).take out_l))],[]):=by kernel_rfl
theorem e36_11111010_10010 (C:CallF) (out_o out_l:Nat)(c':List PV)(r_' i' j' s_b0:Int)(s_b1:List PV)(s_b2 s_b3 s_b4 s_b5:Int)(out_b:List PV):R tab C 36 [] [.lp [1,1,1,1,1,0,1,0],.lp [1,0,0,1,0]] (S36_11111010_10010 out_o out_l c' r_' i' j' s_b0 s_b1 s_b2 s_b3 s_b4 s_b5 out_b) =
 bif (leI j' r_') then
  bif (s_b0==(4:Int)) then
   (C 69 [.p (.int .i64 (IntKind.i64.wrap ((IntKind.i64.wrap (i'*i'))+(IntKind.i64.wrap (j'*j'))))),.p (.int .i64 r_')] []).bind fun r1 =>
   bif (r1.1.headD .undef).pv.toBool then
    bif ((leI (0:Int) s_b5)&&(ltI s_b5 (3:Int))) then bif (ltI (0:Int) ((c'.length:Nat):Int)) then(C 26 [.p (.agg [.int .i64 (((c'.getD 0 .nil).cell 0).toInt),.int .i64 (((c'.getD 0 .nil).cell 1).toInt),.int .i64 (((c'.getD 0 .nil).cell 2).toInt)]),.p (.agg [.int .i64 (((([.agg [.int .i64 (IntKind.i64.wrap (i'*s_b4)),.int .i64 (IntKind.i64.wrap (j'*s_b4)),.int .i64 0],.agg [.int .i64 (IntKind.i64.wrap (i'*s_b4)),.int .i64 0,.int .i64 (IntKind.i64.wrap (j'*s_b4))],.agg [.int .i64 0,.int .i64 (IntKind.i64.wrap (i'*s_b4)),.int .i64 (IntKind.i64.wrap (j'*s_b4))]]:List PV).getD (0+s_b5.toNat) .nil).cell 0).toInt),.int .i64 (((([.agg [.int .i64 (IntKind.i64.wrap (i'*s_b4)),.int .i64 (IntKind.i64.wrap (j'*s_b4)),.int .i64 0],.agg [.int .i64 (IntKind.i64.wrap (i'*s_b4)),.int .i64 0,.int .i64 (IntKind.i64.wrap (j'*s_b4))],.agg [.int .i64 0,.int .i64 (IntKind.i64.wrap (i'*s_b4)),.int .i64 (IntKind.i64.wrap (j'*s_b4))]]:List PV).getD (0+s_b5.toNat) .nil).cell 1).toInt),.int .i64 (((([.agg [.int .i64 (IntKind.i64.wrap (i'*s_b4)),.int .i64 (IntKind.i64.wrap (j'*s_b4)),.int .i64 0],.agg [.int .i64 (IntKind.i64.wrap (i'*s_b4)),.int .i64 0,.int .i64 (IntKind.i64.wrap (j'*s_b4))],.agg [.int .i64 0,.int .i64 (IntKind.i64.wrap (i'*s_b4)),.int .i64 (IntKind.i64.wrap (j'*s_b4))]]:List PV).getD (0+s_b5.toNat) .nil).cell 2).toInt)])] []).bind fun r2 =>
    bif (leN (out_l+1) 2147483648) then L tab C 36 [] [.lp [1,1,1,1,1,0,1,0],.lp [1,0,0,1,0]] (S36_11111010_10010 0 (out_l+1) c' r_' i' (IntKind.i64.wrap (j'+(1:Int))) s_b0 s_b1 s_b2 s_b3 s_b4 s_b5 (((out_b.drop out_o).take out_l)++([.agg [.int .i64 (((r2.1.headD .undef).pv.cell 0).toInt),.int .i64 (((r2.1.headD .undef).pv.cell 1).toInt),.int .i64 (((r2.1.headD .undef).pv.cell 2).toInt)]]:List PV))) else none else none else none
   else
    L tab C 36 [] [.lp [1,1,1,1,1,0,1,0],.lp [1,0,0,1,0]] (S36_11111010_10010 out_o out_l c' r_' i' (IntKind.i64.wrap (j'+(1:Int))) s_b0 s_b1 s_b2 s_b3 s_b4 s_b5 out_b)
  else
   L tab C 36 [] [.lp [1,1,1,1,1,0,1,0],.lp [1,0,0,1,0],.lp [1,0,0,1,1,0]] (S36_11111010_10010_100110 out_o out_l c' r_' i' j' (IntKind.i64.wrap (0-r_')) s_b0 s_b1 s_b2 s_b3 s_b4 s_b5 out_b)
 else
  L tab C 36 [] [.lp [1,1,1,1,1,0,1,0]] (S36_11111010 out_o out_l c' r_' (IntKind.i64.wrap (i'+(1:Int))) s_b0 s_b1 s_b2 s_b3 s_b4 s_b5 out_b):=by kernel_rfl
theorem e36_11111010_10010_100110 (C:CallF) (out_o out_l:Nat)(c':List PV)(r_' i' j' k' s_b0:Int)(s_b1:List PV)(s_b2 s_b3 s_b4 s_b5:Int)(out_b:List PV):R tab C 36 [] [.lp [1,1,1,1,1,0,1,0],.lp [1,0,0,1,0],.lp [1,0,0,1,1,0]] (S36_11111010_10010_100110 out_o out_l c' r_' i' j' k' s_b0 s_b1 s_b2 s_b3 s_b4 s_b5 out_b) =
 bif (leI k' r_') then
  (C 69 [.p (.int .i64 (IntKind.i64.wrap ((IntKind.i64.wrap ((IntKind.i64.wrap (i'*i'))+(IntKind.i64.wrap (j'*j'))))+(IntKind.i64.wrap (k'*k'))))),.p (.int .i64 r_')] []).bind fun r1 =>
  bif (r1.1.headD .undef).pv.toBool then
   bif (ltI (0:Int) ((c'.length:Nat):Int)) then(C 26 [.p (.agg [.int .i64 (((c'.getD 0 .nil).cell 0).toInt),.int .i64 (((c'.getD 0 .nil).cell 1).toInt),.int .i64 (((c'.getD 0 .nil).cell 2).toInt)]),.p (.agg [.int .i64 (IntKind.i64.wrap (i'*s_b4)),.int .i64 (IntKind.i64.wrap (j'*s_b4)),.int .i64 (IntKind.i64.wrap (k'*s_b4))])] []).bind fun r2 =>
   bif (leN (out_l+1) 2147483648) then L tab C 36 [] [.lp [1,1,1,1,1,0,1,0],.lp [1,0,0,1,0],.lp [1,0,0,1,1,0]] (S36_11111010_10010_100110 0 (out_l+1) c' r_' i' j' (IntKind.i64.wrap (k'+(1:Int))) s_b0 s_b1 s_b2 s_b3 s_b4 s_b5 (((out_b.drop out_o).take out_l)++([.agg [.int .i64 (((r2.1.headD .undef).pv.cell 0).toInt),.int .i64 (((r2.1.headD .undef).pv.cell 1).toInt),.int .i64 (((r2.1.headD .undef).pv.cell 2).toInt)]]:List PV))) else none else none
  else
   L tab C 36 [] [.lp [1,1,1,1,1,0,1,0],.lp [1,0,0,1,0],.lp [1,0,0,1,1,0]] (S36_11111010_10010_100110 out_o out_l c' r_' i' j' (IntKind.i64.wrap (k'+(1:Int))) s_b0 s_b1 s_b2 s_b3 s_b4 s_b5 out_b)
 else
  L tab C 36 [] [.lp [1,1,1,1,1,0,1,0],.lp [1,0,0,1,0]] (S36_11111010_10010 out_o out_l c' r_' i' (IntKind.i64.wrap (j'+(1:Int))) s_b0 s_b1 s_b2 s_b3 s_b4 s_b5 out_b):=by kernel_rfl
def S37_1010 (l':List PV)(i':Int):St:=⟨(.p (.list true kV3 l'))::.undef::.undef::(.p (.int .i64 i'))::List.replicate 12 .undef,[]⟩
theorem e37 (C:CallF) (l:List PV):acallI tab C 37 [.p (.list true kV3 l)] [] =
 L tab C 37 [] [.lp [1,0,1,0]] (S37_1010 l 0):=by kernel_rfl
theorem e37_1010 (C:CallF) (l':List PV)(i':Int):R tab C 37 [] [.lp [1,0,1,0]] (S37_1010 l' i') =
 bif (ltI i' ((l'.length:Nat):Int)) then
  bif ((leI (0:Int) i')&&(ltI i' ((l'.length:Nat):Int))) then(C 70 [.p (.agg [.int .i64 (((l'.getD i'.toNat .nil).cell 0).toInt),.int .i64 (((l'.getD i'.toNat .nil).cell 1).toInt),.int .i64 (((l'.getD i'.toNat .nil).cell 2).toInt)])] []).bind fun r1 =>
  bif (!(r1.1.headD .undef).pv.toBool) then
   some ([.p (.bool false)],[])
  else
   L tab C 37 [] [.lp [1,0,1,0]] (S37_1010 l' (IntKind.i64.wrap (i'+(1:Int)))) else none
 else
  some ([.p (.bool true)],[]):=by kernel_rfl
def S38_111100 (a' b':List PV)(out_o out_l:Nat)(out_b:List PV):St:=⟨.undef::.undef::.undef::(.p (.list true kV3 a'))::(.p (.list true kV3 b'))::(.slice 5 3 out_o out_l)::List.replicate 73 .undef,[(5,.arr true kV3 out_b)]⟩
theorem e38 (C:CallF) (l:List PV):acallI tab C 38 [.p (.list true kV3 l)] [] =
 bif (ltI ((l.length:Nat):Int) (2:Int)) then
  some ([.p (.list true kV3 l)],[])
 else
  bif ((leI (0:Int) (IntKind.i64.wrap (((l.length:Nat):Int).tdiv (2:Int))))&&((leI (IntKind.i64.wrap (((l.length:Nat):Int).tdiv (2:Int))) ((l.length:Nat):Int))&&(leI ((l.length:Nat):Int) ((l.length:Nat):Int)))) then(C 38 [.p (.list true kV3 ((l.drop 0).take (((IntKind.i64.wrap (((l.length:Nat):Int).tdiv (2:Int)))-(0:Int)).toNat)))] []).bind fun r1 =>
  bif ((leI (0:Int) (IntKind.i64.wrap (((l.length:Nat):Int).tdiv (2:Int))))&&((leI (IntKind.i64.wrap (((l.length:Nat):Int).tdiv (2:Int))) ((l.length:Nat):Int))&&((leI ((l.length:Nat):Int) ((l.length:Nat):Int))&&(leI ((l.length:Nat):Int) ((l.length:Nat):Int))))) then(C 38 [.p (.list true kV3 ((l.drop ((IntKind.i64.wrap (((l.length:Nat):Int).tdiv (2:Int))).toNat)).take ((((l.length:Nat):Int)-(IntKind.i64.wrap (((l.length:Nat):Int).tdiv (2:Int)))).toNat)))] []).bind fun r2 =>
  L tab C 38 [] [.lp [1,1,1,1,0,0]] (S38_111100 ((r1.1.headD .undef).pv.toList) ((r2.1.headD .undef).pv.toList) 0 0 []) else none else none:=by kernel_rfl
theorem e38_111100 (C:CallF) (a' b':List PV)(out_o out_l:Nat)(out_b:List PV):R tab C 38 [] [.lp [1,1,1,1,0,0]] (S38_111100 a' b' out_o out_l out_b) =
 bif (gtI ((a'.length:Nat):Int) (0:Int)) then
  bif (((b'.length:Nat):Int)==(0:Int)) then
   bif (gtI ((b'.length:Nat):Int) (0:Int)) then
    bif (ltI (0:Int) ((a'.length:Nat):Int)) then bif (ltI (0:Int) ((b'.length:Nat):Int)) then bif ((((a'.getD 0 .nil).cell 0).toInt==((b'.getD 0 .nil).cell 0).toInt)&&((((a'.getD 0 .nil).cell 1).toInt==((b'.getD 0 .nil).cell 1).toInt)&&((((a'.getD 0 .nil).cell 2).toInt==((b'.getD 0 .nil).cell 2).toInt)&&true))) then
     bif ((leI (1:Int) ((b'.length:Nat):Int))&&((leI ((b'.length:Nat):Int) ((b'.length:Nat):Int))&&(leI ((b'.length:Nat):Int) ((b'.length:Nat):Int)))) then bif (ltI (0:Int) ((a'.length:Nat):Int)) then bif (leN (out_l+1) 2147483648) then bif ((leI (1:Int) ((a'.length:Nat):Int))&&((leI ((a'.length:Nat):Int) ((a'.length:Nat):Int))&&(leI ((a'.length:Nat):Int) ((a'.length:Nat):Int)))) then L tab C 38 [] [.lp [1,1,1,1,0,0]] (S38_111100 ((a'.drop 1).take ((((a'.length:Nat):Int)-(1:Int)).toNat)) ((b'.drop 1).take ((((b'.length:Nat):Int)-(1:Int)).toNat)) 0 (out_l+1) (((out_b.drop out_o).take out_l)++([.agg [.int .i64 (((a'.getD 0 .nil).cell 0).toInt),.int .i64 (((a'.getD 0 .nil).cell 1).toInt),.int .i64 (((a'.getD 0 .nil).cell 2).toInt)]]:List PV))) else none else none else none else none
    else
     bif (ltI (0:Int) ((a'.length:Nat):Int)) then bif (leN (out_l+1) 2147483648) then bif ((leI (1:Int) ((a'.length:Nat):Int))&&((leI ((a'.length:Nat):Int) ((a'.length:Nat):Int))&&(leI ((a'.length:Nat):Int) ((a'.length:Nat):Int)))) then L tab C 38 [] [.lp [1,1,1,1,0,0]] (S38_111100 ((a'.drop 1).take ((((a'.length:Nat):Int)-(1:Int)).toNat)) b' 0 (out_l+1) (((out_b.drop out_o).take out_l)++([.agg [.int .i64 (((a'.getD 0 .nil).cell 0).toInt),.int .i64 (((a'.getD 0 .nil).cell 1).toInt),.int .i64 (((a'.getD 0 .nil).cell 2).toInt)]]:List PV))) else none else none else none else none else none
   else
    bif (ltI (0:Int) ((a'.length:Nat):Int)) then bif (leN (out_l+1) 2147483648) then bif ((leI (1:Int) ((a'.length:Nat):Int))&&((leI ((a'.length:Nat):Int) ((a'.length:Nat):Int))&&(leI ((a'.length:Nat):Int) ((a'.length:Nat):Int)))) then L tab C 38 [] [.lp [1,1,1,1,0,0]] (S38_111100 ((a'.drop 1).take ((((a'.length:Nat):Int)-(1:Int)).toNat)) b' 0 (out_l+1) (((out_b.drop out_o).take out_l)++([.agg [.int .i64 (((a'.getD 0 .nil).cell 0).toInt),.int .i64 (((a'.getD 0 .nil).cell 1).toInt),.int .i64 (((a'.getD 0 .nil).cell 2).toInt)]]:List PV))) else none else none else none
  else
   bif (gtI ((a'.length:Nat):Int) (0:Int)) then
    bif (ltI (0:Int) ((a'.length:Nat):Int)) then bif (ltI (0:Int) ((b'.length:Nat):Int)) then(C 71 [.p (.agg [.int .i64 (((a'.getD 0 .nil).cell 0).toInt),.int .i64 (((a'.getD 0 .nil).cell 1).toInt),.int .i64 (((a'.getD 0 .nil).cell 2).toInt)]),.p (.agg [.int .i64 (((b'.getD 0 .nil).cell 0).toInt),.int .i64 (((b'.getD 0 .nil).cell 1).toInt),.int .i64 (((b'.getD 0 .nil).cell 2).toInt)])] []).bind fun r1 =>
    bif (leI ((r1.1.headD .undef).pv.toInt) (0:Int)) then
     bif (gtI ((b'.length:Nat):Int) (0:Int)) then
      bif (ltI (0:Int) ((a'.length:Nat):Int)) then bif (ltI (0:Int) ((b'.length:Nat):Int)) then bif ((((a'.getD 0 .nil).cell 0).toInt==((b'.getD 0 .nil).cell 0).toInt)&&((((a'.getD 0 .nil).cell 1).toInt==((b'.getD 0 .nil).cell 1).toInt)&&((((a'.getD 0 .nil).cell 2).toInt==((b'.getD 0 .nil).cell 2).toInt)&&true))) then
       bif ((leI (1:Int) ((b'.length:Nat):Int))&&((leI ((b'.length:Nat):Int) ((b'.length:Nat):Int))&&(leI ((b'.length:Nat):Int) ((b'.length:Nat):Int)))) then bif (ltI (0:Int) ((a'.length:Nat):Int)) then bif (leN (out_l+1) 2147483648) then bif ((leI (1:Int) ((a'.length:Nat):Int))&&((leI ((a'.length:Nat):Int) ((a'.length:Nat):Int))&&(leI ((a'.length:Nat):Int) ((a'.length:Nat):Int)))) then L tab C 38 [] [.lp [1,1,1,1,0,0]] (S38_111100 ((a'.drop 1).take ((((a'.length:Nat):Int)-(1:Int)).toNat)) ((b'.drop 1).take ((((b'.length:Nat):Int)-(1:Int)).toNat)) 0 (out_l+1) (((out_b.drop out_o).take out_l)++([.agg [.int .i64 (((a'.getD 0 .nil).cell 0).toInt),.int .i64 (((a'.getD 0 .nil).cell 1).toInt),.int .i64 (((a'.getD 0 .nil).cell 2).toInt)]]:List PV))) else none else none else none else none
      else
       bif (ltI (0:Int) ((a'.length:Nat):Int)) then bif (leN (out_l+1) 2147483648) then bif ((leI (1:Int) ((a'.length:Nat):Int))&&((leI ((a'.length:Nat):Int) ((a'.length:Nat):Int))&&(leI ((a'.length:Nat):Int) ((a'.length:Nat):Int)))) then L tab C 38 [] [.lp [1,1,1,1,0,0]] (S38_111100 ((a'.drop 1).take ((((a'.length:Nat):Int)-(1:Int)).toNat)) b' 0 (out_l+1) (((out_b.drop out_o).take out_l)++([.agg [.int .i64 (((a'.getD 0 .nil).cell 0).toInt),.int .i64 (((a'.getD 0 .nil).cell 1).toInt),.int .i64 (((a'.getD 0 .nil).cell 2).toInt)]]:List PV))) else none else none else none else none else none
     else
      bif (ltI (0:Int) ((a'.length:Nat):Int)) then bif (leN (out_l+1) 2147483648) then bif ((leI (1:Int) ((a'.length:Nat):Int))&&((leI ((a'.length:Nat):Int) ((a'.length:Nat):Int))&&(leI ((a'.length:Nat):Int) ((a'.length:Nat):Int)))) then L tab C 38 [] [.lp [1,1,1,1,0,0]] (S38_111100 ((a'.drop 1).take ((((a'.length:Nat):Int)-(1:Int)).toNat)) b' 0 (out_l+1) (((out_b.drop out_o).take out_l)++([.agg [.int .i64 (((a'.getD 0 .nil).cell 0).toInt),.int .i64 (((a'.getD 0 .nil).cell 1).toInt),.int .i64 (((a'.getD 0 .nil).cell 2).toInt)]]:List PV))) else none else none else none
    else
     bif (ltI (0:Int) ((b'.length:Nat):Int)) then bif (leN (out_l+1) 2147483648) then bif ((leI (1:Int) ((b'.length:Nat):Int))&&((leI ((b'.length:Nat):Int) ((b'.length:Nat):Int))&&(leI ((b'.length:Nat):Int) ((b'.length:Nat):Int)))) then L tab C 38 [] [.lp [1,1,1,1,0,0]] (S38_111100 a' ((b'.drop 1).take ((((b'.length:Nat):Int)-(1:Int)).toNat)) 0 (out_l+1) (((out_b.drop out_o).take out_l)++([.agg [.int .i64 (((b'.getD 0 .nil).cell 0).toInt),.int .i64 (((b'.getD 0 .nil).cell 1).toInt),.int .i64 (((b'.getD 0 .nil).cell 2).toInt)]]:List PV))) else none else none else none else none else none
   else
    bif (ltI (0:Int) ((b'.length:Nat):Int)) then bif (leN (out_l+1) 2147483648) then bif ((leI (1:Int) ((b'.length:Nat):Int))&&((leI ((b'.length:Nat):Int) ((b'.length:Nat):Int))&&(leI ((b'.length:Nat):Int) ((b'.length:Nat):Int)))) then L tab C 38 [] [.lp [1,1,1,1,0,0]] (S38_111100 a' ((b'.drop 1).take ((((b'.length:Nat):Int)-(1:Int)).toNat)) 0 (out_l+1) (((out_b.drop out_o).take out_l)++([.agg [.int .i64 (((b'.getD 0 .nil).cell 0).toInt),.int .i64 (((b'.getD 0 .nil).cell 1).toInt),.int .i64 (((b'.getD 0 .nil).cell 2).toInt)]]:List PV))) else none else none else none
 else
  bif (gtI ((b'.length:Nat):Int) (0:Int)) then
   bif (((b'.length:Nat):Int)==(0:Int)) then
    bif (gtI ((b'.length:Nat):Int) (0:Int)) then
     bif (ltI (0:Int) ((a'.length:Nat):Int)) then bif (ltI (0:Int) ((b'.length:Nat):Int)) then bif ((((a'.getD 0 .nil).cell 0).toInt==((b'.getD 0 .nil).cell 0).toInt)&&((((a'.getD 0 .nil).cell 1).toInt==((b'.getD 0 .nil).cell 1).toInt)&&((((a'.getD 0 .nil).cell 2).toInt==((b'.getD 0 .nil).cell 2).toInt)&&true))) then
      bif ((leI (1:Int) ((b'.length:Nat):Int))&&((leI ((b'.length:Nat):Int) ((b'.length:Nat):Int))&&(leI ((b'.length:Nat):Int) ((b'.length:Nat):Int)))) then bif (ltI (0:Int) ((a'.length:Nat):Int)) then bif (leN (out_l+1) 2147483648) then bif ((leI (1:Int) ((a'.length:Nat):Int))&&((leI ((a'.length:Nat):Int) ((a'.length:Nat):Int))&&(leI ((a'.length:Nat):Int) ((a'.length:Nat):Int)))) then L tab C 38 [] [.lp [1,1,1,1,0,0]] (S38_111100 ((a'.drop 1).take ((((a'.length:Nat):Int)-(1:Int)).toNat)) ((b'.drop 1).take ((((b'.length:Nat):Int)-(1:Int)).toNat)) 0 (out_l+1) (((out_b.drop out_o).take out_l)++([.agg [.int .i64 (((a'.getD 0 .nil).cell 0).toInt),.int .i64 (((a'.getD 0 .nil).cell 1).toInt),.int .i64 (((a'.getD 0 .nil).cell 2).toInt)]]:List PV))) else none else none else none else none
     else
      bif (ltI (0:Int) ((a'.length:Nat):Int)) then bif (leN (out_l+1) 2147483648) then bif ((leI (1:Int) ((a'.length:Nat):Int))&&((leI ((a'.length:Nat):Int) ((a'.length:Nat):Int))&&(leI ((a'.length:Nat):Int) ((a'.length:Nat):Int)))) then L tab C 38 [] [.lp [1,1,1,1,0,0]] (S38_111100 ((a'.drop 1).take ((((a'.length:Nat):Int)-(1:Int)).toNat)) b' 0 (out_l+1) (((out_b.drop out_o).take out_l)++([.agg [.int .i64 (((a'.getD 0 .nil).cell 0).toInt),.int .i64 (((a'.getD 0 .nil).cell 1).toInt),.int .i64 (((a'.getD 0 .nil).cell 2).toInt)]]:List PV))) else none else none else none else none else none
    else
     bif (ltI (0:Int) ((a'.length:Nat):Int)) then bif (leN (out_l+1) 2147483648) then bif ((leI (1:Int) ((a'.length:Nat):Int))&&((leI ((a'.length:Nat):Int) ((a'.length:Nat):Int))&&(leI ((a'.length:Nat):Int) ((a'.length:Nat):Int)))) then L tab C 38 [] [.lp [1,1,1,1,0,0]] (S38_111100 ((a'.drop 1).take ((((a'.length:Nat):Int)-(1:Int)).toNat)) b' 0 (out_l+1) (((out_b.drop out_o).take out_l)++([.agg [.int .i64 (((a'.getD 0 .nil).cell 0).toInt),.int .i64 (((a'.getD 0 .nil).cell 1).toInt),.int .i64 (((a'.getD 0 .nil).cell 2).toInt)]]:List PV))) else none else none else none
   else
    bif (gtI ((a'.length:Nat):Int) (0:Int)) then
     bif (ltI (0:Int) ((a'.length:Nat):Int)) then bif (ltI (0:Int) ((b'.length:Nat):Int)) then(C 71 [.p (.agg [.int .i64 (((a'.getD 0 .nil).cell 0).toInt),.int .i64 (((a'.getD 0 .nil).cell 1).toInt),.int .i64 (((a'.getD 0 .nil).cell 2).toInt)]),.p (.agg [.int .i64 (((b'.getD 0 .nil).cell 0).toInt),.int .i64 (((b'.getD 0 .nil).cell 1).toInt),.int .i64 (((b'.getD 0 .nil).cell 2).toInt)])] []).bind fun r2 =>
     bif (leI ((r2.1.headD .undef).pv.toInt) (0:Int)) then
      bif (gtI ((b'.length:Nat):Int) (0:Int)) then
       bif (ltI (0:Int) ((a'.length:Nat):Int)) then bif (ltI (0:Int) ((b'.length:Nat):Int)) then bif ((((a'.getD 0 .nil).cell 0).toInt==((b'.getD 0 .nil).cell 0).toInt)&&((((a'.getD 0 .nil).cell 1).toInt==((b'.getD 0 .nil).cell 1).toInt)&&((((a'.getD 0 .nil).cell 2).toInt==((b'.getD 0 .nil).cell 2).toInt)&&true))) then
        bif ((leI (1:Int) ((b'.length:Nat):Int))&&((leI ((b'.length:Nat):Int) ((b'.length:Nat):Int))&&(leI ((b'.length:Nat):Int) ((b'.length:Nat):Int)))) then bif (ltI (0:Int) ((a'.length:Nat):Int)) then bif (leN (out_l+1) 2147483648) then bif ((leI (1:Int) ((a'.length:Nat):Int))&&((leI ((a'.length:Nat):Int) ((a'.length:Nat):Int))&&(leI ((a'.length:Nat):Int) ((a'.length:Nat):Int)))) then L tab C 38 [] [.lp [1,1,1,1,0,0]] (S38_111100 ((a'.drop 1).take ((((a'.length:Nat):Int)-(1:Int)).toNat)) ((b'.drop 1).take ((((b'.length:Nat):Int)-(1:Int)).toNat)) 0 (out_l+1) (((out_b.drop out_o).take out_l)++([.agg [.int .i64 (((a'.getD 0 .nil).cell 0).toInt),.int .i64 (((a'.getD 0 .nil).cell 1).toInt),.int .i64 (((a'.getD 0 .nil).cell 2).toInt)]]:List PV))) else none else none else none else none
       else
        bif (ltI (0:Int) ((a'.length:Nat):Int)) then bif (leN (out_l+1) 2147483648) then bif ((leI (1:Int) ((a'.length:Nat):Int))&&((leI ((a'.length:Nat):Int) ((a'.length:Nat):Int))&&(leI ((a'.length:Nat):Int) ((a'.length:Nat):Int)))) then L tab C 38 [] [.lp [1,1,1,1,0,0]] (S38_111100 ((a'.drop 1).take ((((a'.length:Nat):Int)-(1:Int)).toNat)) b' 0 (out_l+1) (((out_b.drop out_o).take out_l)++([.agg [.int .i64 (((a'.getD 0 .nil).cell 0).toInt),.int .i64 (((a'.getD 0 .nil).cell 1).toInt),.int .i64 (((a'.getD 0 .nil).cell 2).toInt)]]:List PV))) else none else none else none else none else none
      else
       bif (ltI (0:Int) ((a'.length:Nat):Int)) then bif (leN (out_l+1) 2147483648) then bif ((leI (1:Int) ((a'.length:Nat):Int))&&((leI ((a'.length:Nat):Int) ((a'.length:Nat):Int))&&(leI ((a'.length:Nat):Int) ((a'.length:Nat):Int)))) then L tab C 38 [] [.lp [1,1,1,1,0,0]] (S38_111100 ((a'.drop 1).take ((((a'.length:Nat):Int)-(1:Int)).toNat)) b' 0 (out_l+1) (((out_b.drop out_o).take out_l)++([.agg [.int .i64 (((a'.getD 0 .nil).cell 0).toInt),.int .i64 (((a'.getD 0 .nil).cell 1).toInt),.int .i64 (((a'.getD 0 .nil).cell 2).toInt)]]:List PV))) else none else none else none
     else
      bif (ltI (0:Int) ((b'.length:Nat):Int)) then bif (leN (out_l+1) 2147483648) then bif ((leI (1:Int) ((b'.length:Nat):Int))&&((leI ((b'.length:Nat):Int) ((b'.length:Nat):Int))&&(leI ((b'.length:Nat):Int) ((b'.length:Nat):Int)))) then L tab C 38 [] [.lp [1,1,1,1,0,0]] (S38_111100 a' ((b'.drop 1).take ((((b'.length:Nat):Int)-(1:Int)).toNat)) 0 (out_l+1) (((out_b.drop out_o).take out_l)++([.agg [.int .i64 (((b'.getD 0 .nil).cell 0).toInt),.int .i64 (((b'.getD 0 .nil).cell 1).toInt),.int .i64 (((b'.getD 0 .nil).cell 2).toInt)]]:List PV))) else none else none else none else none else none
    else
     bif (ltI (0:Int) ((b'.length:Nat):Int)) then bif (leN (out_l+1) 2147483648) then bif ((leI (1:Int) ((b'.length:Nat):Int))&&((leI ((b'.length:Nat):Int) ((b'.length:Nat):Int))&&(leI ((b'.length:Nat):Int) ((b'.length:Nat):Int)))) then L tab C 38 [] [.lp [1,1,1,1,0,0]] (S38_111100 a' ((b'.drop 1).take ((((b'.length:Nat):Int)-(1:Int)).toNat)) 0 (out_l+1) (((out_b.drop out_o).take out_l)++([.agg [.int .i64 (((b'.getD 0 .nil).cell 0).toInt),.int .i64 (((b'.getD 0 .nil).cell 1).toInt),.int .i64 (((b'.getD 0 .nil).cell 2).toInt)]]:List PV))) else none else none else none
  else
   some ([.p (.list true kV3 ((out_b.drop out_o).take out_l))],[]):=by kernel_rfl
end Go.Skm.Fig
