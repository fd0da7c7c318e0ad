/-
  What the machine does in each function of this program, and in each round of each loop; no condition.
-/
import Derived.Test.YtipkmkmngcjdbaaGreatDoorSkmE
import Derived.Test.YtipkmkmngcjdbaaGreatDoorTab
import Derived.KernelRfl
set_option maxRecDepth 100000
namespace Go.Skm.Fig
open Go Go.Skm
def S8_11111111110101010 (a':List PV)(l_o l_l m_o m_l:Nat)(i' k':Int)(t187_o t187_l:Nat)(t188' t189' by_b0 by_b1 by_b2:Int)(l_b m_b both_b:List PV):St:=⟨(.p (.list true kSh a'))::.undef::.undef::.undef::.undef::.undef::(.ptr 6 0 0)::.undef::.undef::.undef::.undef::.undef::.undef::.undef::.undef::.undef::.undef::.undef::.undef::(.slice 19 3 l_o l_l)::(.slice 20 3 m_o m_l)::.undef::.undef::(.p (.int .i64 i'))::(.p (.int .i64 k'))::.undef::.undef::.undef::.undef::.undef::.undef::.undef::.undef::.undef::.undef::.undef::.undef::.undef::.undef::.undef::.undef::.undef::.undef::.undef::.undef::.undef::.undef::.undef::.undef::.undef::.undef::.undef::.undef::.undef::.undef::.undef::.undef::.undef::.undef::.undef::.undef::.undef::.undef::.undef::.undef::.undef::.undef::.undef::.undef::.undef::.undef::.undef::.undef::.undef::.undef::.undef::.undef::.undef::.undef::.undef::.undef::.undef::.undef::.undef::.undef::.undef::.undef::.undef::.undef::.undef::.undef::.undef::.undef::.undef::.undef::.undef::.undef::.undef::.undef::.undef::.undef::.undef::.undef::.undef::.undef::.undef::.undef::.undef::.undef::.undef::.undef::.undef::.undef::.undef::.undef::.undef::.undef::.undef::.undef::.undef::.undef::.undef::.undef::.undef::.undef::.undef::.undef::.undef::.undef::.undef::.undef::.undef::.undef::.undef::.undef::.undef::.undef::.undef::.undef::.undef::.undef::.undef::.undef::.undef::.undef::.undef::.undef::.undef::.undef::.undef::.undef::.undef::.undef::.undef::.undef::.undef::.undef::.undef::.undef::.undef::.undef::.undef::.undef::.undef::.undef::.undef::.undef::.undef::.undef::.undef::.undef::.undef::.undef::.undef::.undef::.undef::.undef::.undef::.undef::.undef::.undef::.undef::.undef::.undef::.undef::.undef::.undef::(.slice 21 3 t187_o t187_l)::(.p (.int .i64 t188'))::(.p (.int .i64 t189'))::List.replicate 147 .undef,[(6,.box [.p (.int .i64 by_b0),.p (.int .i64 by_b1),.p (.int .i64 by_b2)]),(19,.arr true kV3 l_b),(20,.arr true kV3 m_b),(21,.arr true kV3 both_b)]⟩
def S8_111111111110110110110 (a':List PV)(l_o l_l x_o x_l:Nat)(t265' t266' by_b0 by_b1 by_b2:Int)(l_b x_b:List PV):St:=⟨(.p (.list true kSh a'))::.undef::.undef::.undef::.undef::.undef::(.ptr 6 0 0)::.undef::.undef::.undef::.undef::.undef::.undef::.undef::.undef::.undef::.undef::.undef::.undef::(.slice 19 3 l_o l_l)::.undef::.undef::.undef::.undef::.undef::.undef::.undef::.undef::.undef::.undef::(.slice 30 3 x_o x_l)::.undef::.undef::.undef::.undef::.undef::.undef::.undef::.undef::.undef::.undef::.undef::.undef::.undef::.undef::.undef::.undef::.undef::.undef::.undef::.undef::.undef::.undef::.undef::.undef::.undef::.undef::.undef::.undef::.undef::.undef::.undef::.undef::.undef::.undef::.undef::.undef::.undef::.undef::.undef::.undef::.undef::.undef::.undef::.undef::.undef::.undef::.undef::.undef::.undef::.undef::.undef::.undef::.undef::.undef::.undef::.undef::.undef::.undef::.undef::.undef::.undef::.undef::.undef::.undef::.undef::.undef::.undef::.undef::.undef::.undef::.undef::.undef::.undef::.undef::.undef::.undef::.undef::.undef::.undef::.undef::.undef::.undef::.undef::.undef::.undef::.undef::.undef::.undef::.undef::.undef::.undef::.undef::.undef::.undef::.undef::.undef::.undef::.undef::.undef::.undef::.undef::.undef::.undef::.undef::.undef::.undef::.undef::.undef::.undef::.undef::.undef::.undef::.undef::.undef::.undef::.undef::.undef::.undef::.undef::.undef::.undef::.undef::.undef::.undef::.undef::.undef::.undef::.undef::.undef::.undef::.undef::.undef::.undef::.undef::.undef::.undef::.undef::.undef::.undef::.undef::.undef::.undef::.undef::.undef::.undef::.undef::.undef::.undef::.undef::.undef::.undef::.undef::.undef::.undef::.undef::.undef::.undef::.undef::.undef::.undef::.undef::.undef::.undef::.undef::.undef::.undef::.undef::.undef::.undef::.undef::.undef::.undef::.undef::.undef::.undef::.undef::.undef::.undef::.undef::.undef::.undef::.undef::.undef::.undef::.undef::.undef::.undef::.undef::.undef::.undef::.undef::.undef::.undef::.undef::.undef::.undef::.undef::.undef::.undef::.undef::.undef::.undef::.undef::.undef::.undef::.undef::.undef::.undef::.undef::.undef::.undef::.undef::.undef::.undef::.undef::.undef::.undef::.undef::.undef::.undef::.undef::.undef::.undef::.undef::.undef::.undef::.undef::.undef::.undef::.undef::.undef::.undef::.undef::.undef::(.p (.int .i64 t265'))::(.p (.int .i64 t266'))::List.replicate 70 .undef,[(6,.box [.p (.int .i64 by_b0),.p (.int .i64 by_b1),.p (.int .i64 by_b2)]),(19,.arr true kV3 l_b),(30,.arr true kV3 x_b)]⟩
def S8_111111111111010 (t283':List PV)(t284' t285':Int):St:=⟨.undef::.undef::.undef::.undef::.undef::.undef::.undef::.undef::.undef::.undef::.undef::.undef::.undef::.undef::.undef::.undef::.undef::.undef::.undef::.undef::.undef::.undef::.undef::.undef::.undef::.undef::.undef::.undef::.undef::.undef::.undef::.undef::.undef::.undef::.undef::.undef::.undef::.undef::.undef::.undef::.undef::.undef::.undef::.undef::.undef::.undef::.undef::.undef::.undef::.undef::.undef::.undef::.undef::.undef::.undef::.undef::.undef::.undef::.undef::.undef::.undef::.undef::.undef::.undef::.undef::.undef::.undef::.undef::.undef::.undef::.undef::.undef::.undef::.undef::.undef::.undef::.undef::.undef::.undef::.undef::.undef::.undef::.undef::.undef::.undef::.undef::.undef::.undef::.undef::.undef::.undef::.undef::.undef::.undef::.undef::.undef::.undef::.undef::.undef::.undef::.undef::.undef::.undef::.undef::.undef::.undef::.undef::.undef::.undef::.undef::.undef::.undef::.undef::.undef::.undef::.undef::.undef::.undef::.undef::.undef::.undef::.undef::.undef::.undef::.undef::.undef::.undef::.undef::.undef::.undef::.undef::.undef::.undef::.undef::.undef::.undef::.undef::.undef::.undef::.undef::.undef::.undef::.undef::.undef::.undef::.undef::.undef::.undef::.undef::.undef::.undef::.undef::.undef::.undef::.undef::.undef::.undef::.undef::.undef::.undef::.undef::.undef::.undef::.undef::.undef::.undef::.undef::.undef::.undef::.undef::.undef::.undef::.undef::.undef::.undef::.undef::.undef::.undef::.undef::.undef::.undef::.undef::.undef::.undef::.undef::.undef::.undef::.undef::.undef::.undef::.undef::.undef::.undef::.undef::.undef::.undef::.undef::.undef::.undef::.undef::.undef::.undef::.undef::.undef::.undef::.undef::.undef::.undef::.undef::.undef::.undef::.undef::.undef::.undef::.undef::.undef::.undef::.undef::.undef::.undef::.undef::.undef::.undef::.undef::.undef::.undef::.undef::.undef::.undef::.undef::.undef::.undef::.undef::.undef::.undef::.undef::.undef::.undef::.undef::.undef::.undef::.undef::.undef::.undef::.undef::.undef::.undef::.undef::.undef::.undef::.undef::.undef::.undef::.undef::.undef::.undef::.undef::.undef::.undef::.undef::.undef::.undef::.undef::.undef::.undef::.undef::.undef::.undef::.undef::.undef::.undef::.undef::.undef::.undef::.undef::.undef::.undef::.undef::.undef::.undef::.undef::.undef::.undef::(.p (.list true kSh t283'))::(.p (.int .i64 t284'))::(.p (.int .i64 t285'))::List.replicate 51 .undef,[]⟩
def S8_111111111111010_11001111110 (x_o x_l:Nat)(t283':List PV)(t284' t285' t315' t316':Int)(x_b:List PV)(o_b0 o_b1 o_b2:Int):St:=⟨.undef::.undef::.undef::.undef::.undef::.undef::.undef::.undef::.undef::.undef::.undef::.undef::.undef::.undef::.undef::.undef::.undef::.undef::.undef::.undef::.undef::.undef::.undef::.undef::.undef::.undef::.undef::.undef::.undef::.undef::.undef::.undef::.undef::.undef::.undef::(.slice 35 3 x_o x_l)::.undef::(.ptr 37 0 0)::.undef::.undef::.undef::.undef::.undef::.undef::.undef::.undef::.undef::.undef::.undef::.undef::.undef::.undef::.undef::.undef::.undef::.undef::.undef::.undef::.undef::.undef::.undef::.undef::.undef::.undef::.undef::.undef::.undef::.undef::.undef::.undef::.undef::.undef::.undef::.undef::.undef::.undef::.undef::.undef::.undef::.undef::.undef::.undef::.undef::.undef::.undef::.undef::.undef::.undef::.undef::.undef::.undef::.undef::.undef::.undef::.undef::.undef::.undef::.undef::.undef::.undef::.undef::.undef::.undef::.undef::.undef::.undef::.undef::.undef::.undef::.undef::.undef::.undef::.undef::.undef::.undef::.undef::.undef::.undef::.undef::.undef::.undef::.undef::.undef::.undef::.undef::.undef::.undef::.undef::.undef::.undef::.undef::.undef::.undef::.undef::.undef::.undef::.undef::.undef::.undef::.undef::.undef::.undef::.undef::.undef::.undef::.undef::.undef::.undef::.undef::.undef::.undef::.undef::.undef::.undef::.undef::.undef::.undef::.undef::.undef::.undef::.undef::.undef::.undef::.undef::.undef::.undef::.undef::.undef::.undef::.undef::.undef::.undef::.undef::.undef::.undef::.undef::.undef::.undef::.undef::.undef::.undef::.undef::.undef::.undef::.undef::.undef::.undef::.undef::.undef::.undef::.undef::.undef::.undef::.undef::.undef::.undef::.undef::.undef::.undef::.undef::.undef::.undef::.undef::.undef::.undef::.undef::.undef::.undef::.undef::.undef::.undef::.undef::.undef::.undef::.undef::.undef::.undef::.undef::.undef::.undef::.undef::.undef::.undef::.undef::.undef::.undef::.undef::.undef::.undef::.undef::.undef::.undef::.undef::.undef::.undef::.undef::.undef::.undef::.undef::.undef::.undef::.undef::.undef::.undef::.undef::.undef::.undef::.undef::.undef::.undef::.undef::.undef::.undef::.undef::.undef::.undef::.undef::.undef::.undef::.undef::.undef::.undef::.undef::.undef::.undef::.undef::.undef::.undef::.undef::.undef::.undef::.undef::.undef::.undef::.undef::.undef::.undef::.undef::.undef::.undef::.undef::.undef::.undef::(.p (.list true kSh t283'))::(.p (.int .i64 t284'))::(.p (.int .i64 t285'))::.undef::.undef::.undef::.undef::.undef::.undef::.undef::.undef::.undef::.undef::.undef::.undef::.undef::.undef::.undef::.undef::.undef::.undef::.undef::.undef::.undef::.undef::.undef::.undef::.undef::.undef::.undef::.undef::.undef::(.p (.int .i64 t315'))::(.p (.int .i64 t316'))::List.replicate 20 .undef,[(35,.arr true kV3 x_b),(37,.box [.p (.int .i64 o_b0),.p (.int .i64 o_b1),.p (.int .i64 o_b2)])]⟩
theorem e8 (C:CallF) (a b:List PV)(by__0 by__1 by__2:Int)(s:ByteArray):acallI tab C 8 [.p (.list true kSh a),.p (.list true kSh b),.p (.agg [.int .i64 by__0,.int .i64 by__1,.int .i64 by__2]),.p (.str s)] [] =
 (C 10 [.p (.list true kSh a)] []).bind fun r1 =>
 bif (!(r1.1.headD .undef).pv.toBool) then
  (C 12 [] []).bind fun r2 =>
  some ([.p (.bool ((r2.1.headD .undef).pv.toBool))],[])
 else
  (C 10 [.p (.list true kSh b)] []).bind fun r3 =>
  bif (!(r3.1.headD .undef).pv.toBool) then
   (C 12 [] []).bind fun r4 =>
   some ([.p (.bool ((r4.1.headD .undef).pv.toBool))],[])
  else
   (C 11 [.p (.list true kSh a)] []).bind fun r5 =>
   bif (!(r5.1.headD .undef).pv.toBool) then
    (C 12 [] []).bind fun r6 =>
    some ([.p (.bool ((r6.1.headD .undef).pv.toBool))],[])
   else
    (C 11 [.p (.list true kSh b)] []).bind fun r7 =>
    bif (!(r7.1.headD .undef).pv.toBool) then
     (C 12 [] []).bind fun r8 =>
     some ([.p (.bool ((r8.1.headD .undef).pv.toBool))],[])
    else
     bif (gtI ((a.length:Nat):Int) (4:Int)) then
      (C 12 [] []).bind fun r9 =>
      some ([.p (.bool ((r9.1.headD .undef).pv.toBool))],[])
     else
      bif (gtI ((b.length:Nat):Int) (4:Int)) then
       (C 12 [] []).bind fun r10 =>
       some ([.p (.bool ((r10.1.headD .undef).pv.toBool))],[])
      else
       (C 14 [.p (.list true kSh a)] []).bind fun r11 =>
       bif (!(r11.1.headD .undef).pv.toBool) then
        (C 12 [] []).bind fun r12 =>
        some ([.p (.bool ((r12.1.headD .undef).pv.toBool))],[])
       else
        (C 14 [.p (.list true kSh b)] []).bind fun r13 =>
        bif (!(r13.1.headD .undef).pv.toBool) then
         (C 12 [] []).bind fun r14 =>
         some ([.p (.bool ((r14.1.headD .undef).pv.toBool))],[])
        else
         bif (ltI by__0 (-100:Int)) then
          (C 12 [] []).bind fun r15 =>
          some ([.p (.bool ((r15.1.headD .undef).pv.toBool))],[])
         else
          bif (gtI by__0 (100:Int)) then
           (C 12 [] []).bind fun r16 =>
           some ([.p (.bool ((r16.1.headD .undef).pv.toBool))],[])
          else
           bif (ltI by__1 (-100:Int)) then
            (C 12 [] []).bind fun r17 =>
            some ([.p (.bool ((r17.1.headD .undef).pv.toBool))],[])
           else
            bif (gtI by__1 (100:Int)) then
             (C 12 [] []).bind fun r18 =>
             some ([.p (.bool ((r18.1.headD .undef).pv.toBool))],[])
            else
             bif (ltI by__2 (-100:Int)) then
              (C 12 [] []).bind fun r19 =>
              some ([.p (.bool ((r19.1.headD .undef).pv.toBool))],[])
             else
              bif (gtI by__2 (100:Int)) then
               (C 12 [] []).bind fun r20 =>
               some ([.p (.bool ((r20.1.headD .undef).pv.toBool))],[])
              else
               bif (gtI ((s.size:Nat):Int) (500:Int)) then
                (C 12 [] []).bind fun r21 =>
                some ([.p (.bool ((r21.1.headD .undef).pv.toBool))],[])
               else
                (C 17 [.p (.list true kSh a)] []).bind fun r22 =>
                (C 19 [.p (.str ((r22.1.headD .undef).pv.toStr))] []).bind fun r23 =>
                bif ((r22.1.tail.headD .undef).pv.toInt != (0:Int)) then
                 some ([.p (.bool false)],[])
                else
                 bif ((r23.1.tail.tail.headD .undef).pv.toInt != (0:Int)) then
                  some ([.p (.bool false)],[])
                 else
                  bif ((r23.1.tail.headD .undef).pv.toInt != (0:Int)) then
                   some ([.p (.bool false)],[])
                  else
                   (C 21 [.p (.list true kSh ((((r23.1.headD .undef).freshList).drop 0).take ((r23.1.headD .undef).freshList.length))),.p (.list true kSh a)] []).bind fun r24 =>
                   bif (!(r24.1.headD .undef).pv.toBool) then
                    some ([.p (.bool false)],[])
                   else
                    (C 19 [.p (.str s)] []).bind fun r25 =>
                    bif ((r25.1.tail.tail.headD .undef).pv.toInt==(0:Int)) then
                     (C 17 [.p (.list true kSh ((((r25.1.headD .undef).freshList).drop 0).take ((r25.1.headD .undef).freshList.length)))] []).bind fun r26 =>
                     bif (!(((r26.1.headD .undef).pv.toStr).toList==s.toList)) then
                      some ([.p (.bool false)],[])
                     else
                      bif ((r26.1.tail.headD .undef).pv.toInt != (0:Int)) then
                       some ([.p (.bool false)],[])
                      else
                       (C 13 [.p (.list true kSh a)] []).bind fun r27 =>
                       (C 13 [.p (.list true kSh b)] []).bind fun r28 =>
                       bif ((r27.1.tail.headD .undef).pv.toInt != (0:Int)) then
                        (C 12 [] []).bind fun r29 =>
                        some ([.p (.bool ((r29.1.headD .undef).pv.toBool))],[])
                       else
                        bif ((r28.1.tail.headD .undef).pv.toInt != (0:Int)) then
                         (C 12 [] []).bind fun r30 =>
                         some ([.p (.bool ((r30.1.headD .undef).pv.toBool))],[])
                        else
                         bif (leN a.length 2147483648) then bif (leN (a.length+b.length) 2147483648) then(C 13 [.p (.list true kSh (((((a.drop 0).take a.length)++b).drop 0).take (a.length+b.length)))] []).bind fun r31 =>
                         bif ((r31.1.tail.headD .undef).pv.toInt==(0:Int)) then
                          L tab C 8 [] [.lp [1,1,1,1,1,1,1,1,1,1,0,1,0,1,0,1,0]] (S8_11111111110101010 a 0 ((r27.1.headD .undef).freshList.length) 0 ((r28.1.headD .undef).freshList.length) 0 0 0 ((r31.1.headD .undef).freshList.length) (((r31.1.headD .undef).freshList.length:Nat):Int) 0 by__0 by__1 by__2 ((r27.1.headD .undef).freshList) ((r28.1.headD .undef).freshList) ((r31.1.headD .undef).freshList))
                         else
                          bif ((r31.1.tail.headD .undef).pv.toInt != (7:Int)) then
                           some ([.p (.bool false)],[])
                          else
                           bif (leI (IntKind.i64.wrap ((((r27.1.headD .undef).freshList.length:Nat):Int)+(((r28.1.headD .undef).freshList.length:Nat):Int))) (4096:Int)) then
                            some ([.p (.bool false)],[])
                           else
                            (C 22 [.p (.list true kSh a),.p (.agg [.int .i64 by__0,.int .i64 by__1,.int .i64 by__2])] []).bind fun r32 =>
                            bif ((r32.1.tail.headD .undef).pv.toInt==(0:Int)) then
                             (C 13 [.p (.list true kSh ((((r32.1.headD .undef).freshList).drop 0).take ((r32.1.headD .undef).freshList.length)))] []).bind fun r33 =>
                             bif ((r33.1.tail.headD .undef).pv.toInt==(0:Int)) then
                              bif ((((r33.1.headD .undef).freshList.length:Nat):Int) != (((r27.1.headD .undef).freshList.length:Nat):Int)) then
                               some ([.p (.bool false)],[])
                              else
                               L tab C 8 [] [.lp [1,1,1,1,1,1,1,1,1,1,1,0,1,1,0,1,1,0,1,1,0]] (S8_111111111110110110110 a 0 ((r27.1.headD .undef).freshList.length) 0 ((r33.1.headD .undef).freshList.length) (((r33.1.headD .undef).freshList.length:Nat):Int) 0 by__0 by__1 by__2 ((r27.1.headD .undef).freshList) ((r33.1.headD .undef).freshList))
                             else
                              bif ((r33.1.tail.headD .undef).pv.toInt != (3:Int)) then
                               some ([.p (.bool false)],[])
                              else
                               L tab C 8 [] [.lp [1,1,1,1,1,1,1,1,1,1,1,1,0,1,0]] (S8_111111111111010 a ((a.length:Nat):Int) 0)
                            else
                             L tab C 8 [] [.lp [1,1,1,1,1,1,1,1,1,1,1,1,0,1,0]] (S8_111111111111010 a ((a.length:Nat):Int) 0) else none else none
                    else
                     (C 13 [.p (.list true kSh a)] []).bind fun r34 =>
                     (C 13 [.p (.list true kSh b)] []).bind fun r35 =>
                     bif ((r34.1.tail.headD .undef).pv.toInt != (0:Int)) then
                      (C 12 [] []).bind fun r36 =>
                      some ([.p (.bool ((r36.1.headD .undef).pv.toBool))],[])
                     else
                      bif ((r35.1.tail.headD .undef).pv.toInt != (0:Int)) then
                       (C 12 [] []).bind fun r37 =>
                       some ([.p (.bool ((r37.1.headD .undef).pv.toBool))],[])
                      else
                       bif (leN a.length 2147483648) then bif (leN (a.length+b.length) 2147483648) then(C 13 [.p (.list true kSh (((((a.drop 0).take a.length)++b).drop 0).take (a.length+b.length)))] []).bind fun r38 =>
                       bif ((r38.1.tail.headD .undef).pv.toInt==(0:Int)) then
                        L tab C 8 [] [.lp [1,1,1,1,1,1,1,1,1,1,0,1,0,1,0,1,0]] (S8_11111111110101010 a 0 ((r34.1.headD .undef).freshList.length) 0 ((r35.1.headD .undef).freshList.length) 0 0 0 ((r38.1.headD .undef).freshList.length) (((r38.1.headD .undef).freshList.length:Nat):Int) 0 by__0 by__1 by__2 ((r34.1.headD .undef).freshList) ((r35.1.headD .undef).freshList) ((r38.1.headD .undef).freshList))
                       else
                        bif ((r38.1.tail.headD .undef).pv.toInt != (7:Int)) then
                         some ([.p (.bool false)],[])
                        else
                         bif (leI (IntKind.i64.wrap ((((r34.1.headD .undef).freshList.length:Nat):Int)+(((r35.1.headD .undef).freshList.length:Nat):Int))) (4096:Int)) then
                          some ([.p (.bool false)],[])
                         else
                          (C 22 [.p (.list true kSh a),.p (.agg [.int .i64 by__0,.int .i64 by__1,.int .i64 by__2])] []).bind fun r39 =>
                          bif ((r39.1.tail.headD .undef).pv.toInt==(0:Int)) then
                           (C 13 [.p (.list true kSh ((((r39.1.headD .undef).freshList).drop 0).take ((r39.1.headD .undef).freshList.length)))] []).bind fun r40 =>
                           bif ((r40.1.tail.headD .undef).pv.toInt==(0:Int)) then
                            bif ((((r40.1.headD .undef).freshList.length:Nat):Int) != (((r34.1.headD .undef).freshList.length:Nat):Int)) then
                             some ([.p (.bool false)],[])
                            else
                             L tab C 8 [] [.lp [1,1,1,1,1,1,1,1,1,1,1,0,1,1,0,1,1,0,1,1,0]] (S8_111111111110110110110 a 0 ((r34.1.headD .undef).freshList.length) 0 ((r40.1.headD .undef).freshList.length) (((r40.1.headD .undef).freshList.length:Nat):Int) 0 by__0 by__1 by__2 ((r34.1.headD .undef).freshList) ((r40.1.headD .undef).freshList))
                           else
                            bif ((r40.1.tail.headD .undef).pv.toInt != (3:Int)) then
                             some ([.p (.bool false)],[])
                            else
                             L tab C 8 [] [.lp [1,1,1,1,1,1,1,1,1,1,1,1,0,1,0]] (S8_111111111111010 a ((a.length:Nat):Int) 0)
                          else
                           L tab C 8 [] [.lp [1,1,1,1,1,1,1,1,1,1,1,1,0,1,0]] (S8_111111111111010 a ((a.length:Nat):Int) 0) else none else none:=by kernel_rfl
theorem e8_11111111110101010 (C:CallF) (a':List PV)(l_o l_l m_o m_l:Nat)(i' k':Int)(t187_o t187_l:Nat)(t188' t189' by_b0 by_b1 by_b2:Int)(l_b m_b both_b:List PV):R tab C 8 [] [.lp [1,1,1,1,1,1,1,1,1,1,0,1,0,1,0,1,0]] (S8_11111111110101010 a' l_o l_l m_o m_l i' k' t187_o t187_l t188' t189' by_b0 by_b1 by_b2 l_b m_b both_b) =
 bif (ltI t189' t188') then
  bif ((leI (0:Int) t189')&&(ltI t189' (t187_l:Int))) then bif (ltI i' (l_l:Int)) then
   bif ((leI (0:Int) i')&&(ltI i' (l_l:Int))) then bif ((((l_b.getD (l_o+i'.toNat) .nil).cell 0).toInt==((both_b.getD (t187_o+t189'.toNat) .nil).cell 0).toInt)&&((((l_b.getD (l_o+i'.toNat) .nil).cell 1).toInt==((both_b.getD (t187_o+t189'.toNat) .nil).cell 1).toInt)&&((((l_b.getD (l_o+i'.toNat) .nil).cell 2).toInt==((both_b.getD (t187_o+t189'.toNat) .nil).cell 2).toInt)&&true))) then
    bif (ltI k' (m_l:Int)) then
     bif ((leI (0:Int) k')&&(ltI k' (m_l:Int))) then bif ((((m_b.getD (m_o+k'.toNat) .nil).cell 0).toInt==((both_b.getD (t187_o+t189'.toNat) .nil).cell 0).toInt)&&((((m_b.getD (m_o+k'.toNat) .nil).cell 1).toInt==((both_b.getD (t187_o+t189'.toNat) .nil).cell 1).toInt)&&((((m_b.getD (m_o+k'.toNat) .nil).cell 2).toInt==((both_b.getD (t187_o+t189'.toNat) .nil).cell 2).toInt)&&true))) then
      L tab C 8 [] [.lp [1,1,1,1,1,1,1,1,1,1,0,1,0,1,0,1,0]] (S8_11111111110101010 a' l_o l_l m_o m_l (IntKind.i64.wrap (i'+(1:Int))) (IntKind.i64.wrap (k'+(1:Int))) t187_o t187_l t188' (IntKind.i64.wrap (t189'+(1:Int))) by_b0 by_b1 by_b2 l_b m_b both_b)
     else
      L tab C 8 [] [.lp [1,1,1,1,1,1,1,1,1,1,0,1,0,1,0,1,0]] (S8_11111111110101010 a' l_o l_l m_o m_l (IntKind.i64.wrap (i'+(1:Int))) k' t187_o t187_l t188' (IntKind.i64.wrap (t189'+(1:Int))) by_b0 by_b1 by_b2 l_b m_b both_b) else none
    else
     L tab C 8 [] [.lp [1,1,1,1,1,1,1,1,1,1,0,1,0,1,0,1,0]] (S8_11111111110101010 a' l_o l_l m_o m_l (IntKind.i64.wrap (i'+(1:Int))) k' t187_o t187_l t188' (IntKind.i64.wrap (t189'+(1:Int))) by_b0 by_b1 by_b2 l_b m_b both_b)
   else
    bif (ltI k' (m_l:Int)) then
     bif ((leI (0:Int) k')&&(ltI k' (m_l:Int))) then bif ((((m_b.getD (m_o+k'.toNat) .nil).cell 0).toInt==((both_b.getD (t187_o+t189'.toNat) .nil).cell 0).toInt)&&((((m_b.getD (m_o+k'.toNat) .nil).cell 1).toInt==((both_b.getD (t187_o+t189'.toNat) .nil).cell 1).toInt)&&((((m_b.getD (m_o+k'.toNat) .nil).cell 2).toInt==((both_b.getD (t187_o+t189'.toNat) .nil).cell 2).toInt)&&true))) then
      L tab C 8 [] [.lp [1,1,1,1,1,1,1,1,1,1,0,1,0,1,0,1,0]] (S8_11111111110101010 a' l_o l_l m_o m_l i' (IntKind.i64.wrap (k'+(1:Int))) t187_o t187_l t188' (IntKind.i64.wrap (t189'+(1:Int))) by_b0 by_b1 by_b2 l_b m_b both_b)
     else
      some ([.p (.bool false)],[]) else none
    else
     some ([.p (.bool false)],[]) else none
  else
   bif (ltI k' (m_l:Int)) then
    bif ((leI (0:Int) k')&&(ltI k' (m_l:Int))) then bif ((((m_b.getD (m_o+k'.toNat) .nil).cell 0).toInt==((both_b.getD (t187_o+t189'.toNat) .nil).cell 0).toInt)&&((((m_b.getD (m_o+k'.toNat) .nil).cell 1).toInt==((both_b.getD (t187_o+t189'.toNat) .nil).cell 1).toInt)&&((((m_b.getD (m_o+k'.toNat) .nil).cell 2).toInt==((both_b.getD (t187_o+t189'.toNat) .nil).cell 2).toInt)&&true))) then
     L tab C 8 [] [.lp [1,1,1,1,1,1,1,1,1,1,0,1,0,1,0,1,0]] (S8_11111111110101010 a' l_o l_l m_o m_l i' (IntKind.i64.wrap (k'+(1:Int))) t187_o t187_l t188' (IntKind.i64.wrap (t189'+(1:Int))) by_b0 by_b1 by_b2 l_b m_b both_b)
    else
     some ([.p (.bool false)],[]) else none
   else
    some ([.p (.bool false)],[]) else none
 else
  bif (i' != (l_l:Int)) then
   some ([.p (.bool false)],[])
  else
   bif (k' != (m_l:Int)) then
    some ([.p (.bool false)],[])
   else
    (C 22 [.p (.list true kSh a'),.p (.agg [.int .i64 by_b0,.int .i64 by_b1,.int .i64 by_b2])] []).bind fun r1 =>
    bif ((r1.1.tail.headD .undef).pv.toInt==(0:Int)) then
     (C 13 [.p (.list true kSh ((((r1.1.headD .undef).freshList).drop 0).take ((r1.1.headD .undef).freshList.length)))] []).bind fun r2 =>
     bif ((r2.1.tail.headD .undef).pv.toInt==(0:Int)) then
      bif ((((r2.1.headD .undef).freshList.length:Nat):Int) != (l_l:Int)) then
       some ([.p (.bool false)],[])
      else
       L tab C 8 [] [.lp [1,1,1,1,1,1,1,1,1,1,1,0,1,1,0,1,1,0,1,1,0]] (S8_111111111110110110110 a' l_o l_l 0 ((r2.1.headD .undef).freshList.length) (((r2.1.headD .undef).freshList.length:Nat):Int) 0 by_b0 by_b1 by_b2 l_b ((r2.1.headD .undef).freshList))
     else
      bif ((r2.1.tail.headD .undef).pv.toInt != (3:Int)) then
       some ([.p (.bool false)],[])
      else
       L tab C 8 [] [.lp [1,1,1,1,1,1,1,1,1,1,1,1,0,1,0]] (S8_111111111111010 a' ((a'.length:Nat):Int) 0)
    else
     L tab C 8 [] [.lp [1,1,1,1,1,1,1,1,1,1,1,1,0,1,0]] (S8_111111111111010 a' ((a'.length:Nat):Int) 0):=by kernel_rfl
theorem e8_111111111110110110110 (C:CallF) (a':List PV)(l_o l_l x_o x_l:Nat)(t265' t266' by_b0 by_b1 by_b2:Int)(l_b x_b:List PV):R tab C 8 [] [.lp [1,1,1,1,1,1,1,1,1,1,1,0,1,1,0,1,1,0,1,1,0]] (S8_111111111110110110110 a' l_o l_l x_o x_l t265' t266' by_b0 by_b1 by_b2 l_b x_b) =
 bif (ltI t266' t265') then
  bif ((leI (0:Int) t266')&&(ltI t266' (x_l:Int))) then bif ((leI (0:Int) t266')&&(ltI t266' (l_l:Int))) then(C 26 [.p (.agg [.int .i64 (((l_b.getD (l_o+t266'.toNat) .nil).cell 0).toInt),.int .i64 (((l_b.getD (l_o+t266'.toNat) .nil).cell 1).toInt),.int .i64 (((l_b.getD (l_o+t266'.toNat) .nil).cell 2).toInt)]),.p (.agg [.int .i64 by_b0,.int .i64 by_b1,.int .i64 by_b2])] []).bind fun r1 =>
  bif (!((((x_b.getD (x_o+t266'.toNat) .nil).cell 0).toInt==((r1.1.headD .undef).pv.cell 0).toInt)&&((((x_b.getD (x_o+t266'.toNat) .nil).cell 1).toInt==((r1.1.headD .undef).pv.cell 1).toInt)&&((((x_b.getD (x_o+t266'.toNat) .nil).cell 2).toInt==((r1.1.headD .undef).pv.cell 2).toInt)&&true)))) then
   some ([.p (.bool false)],[])
  else
   L tab C 8 [] [.lp [1,1,1,1,1,1,1,1,1,1,1,0,1,1,0,1,1,0,1,1,0]] (S8_111111111110110110110 a' l_o l_l x_o x_l t265' (IntKind.i64.wrap (t266'+(1:Int))) by_b0 by_b1 by_b2 l_b x_b) else none else none
 else
  L tab C 8 [] [.lp [1,1,1,1,1,1,1,1,1,1,1,1,0,1,0]] (S8_111111111111010 a' ((a'.length:Nat):Int) 0):=by kernel_rfl
theorem e8_111111111111010 (C:CallF) (t283':List PV)(t284' t285':Int):R tab C 8 [] [.lp [1,1,1,1,1,1,1,1,1,1,1,1,0,1,0]] (S8_111111111111010 t283' t284' t285') =
 bif (ltI t285' t284') then
  bif ((leI (0:Int) t285')&&(ltI t285' ((t283'.length:Nat):Int))) then bif (((t283'.getD t285'.toNat .nil).cell 0).toInt != (4:Int)) then
   bif (((t283'.getD t285'.toNat .nil).cell 0).toInt != (5:Int)) then
    L tab C 8 [] [.lp [1,1,1,1,1,1,1,1,1,1,1,1,0,1,0]] (S8_111111111111010 t283' t284' (IntKind.i64.wrap (t285'+(1:Int))))
   else
    (C 13 [.p (.list true kSh [.agg [.int .i64 (((t283'.getD t285'.toNat .nil).cell 0).toInt),.list true kV3 (((t283'.getD t285'.toNat .nil).cell 1).toList),.int .i64 (((t283'.getD t285'.toNat .nil).cell 2).toInt),.int .i64 (((t283'.getD t285'.toNat .nil).cell 3).toInt),.int .i64 (((t283'.getD t285'.toNat .nil).cell 4).toInt),.int .i64 (((t283'.getD t285'.toNat .nil).cell 5).toInt)]])] []).bind fun r1 =>
    bif ((r1.1.tail.headD .undef).pv.toInt != (0:Int)) then
     some ([.p (.bool false)],[])
    else
     bif (ltI (0:Int) (((((t283'.getD t285'.toNat .nil).cell 1).toList).length:Nat):Int)) then bif (ltI (0:Int) (((((t283'.getD t285'.toNat .nil).cell 1).toList).length:Nat):Int)) then(C 26 [.p (.agg [.int .i64 ((((((t283'.getD t285'.toNat .nil).cell 1).toList).getD 0 .nil).cell 0).toInt),.int .i64 ((((((t283'.getD t285'.toNat .nil).cell 1).toList).getD 0 .nil).cell 1).toInt),.int .i64 ((((((t283'.getD t285'.toNat .nil).cell 1).toList).getD 0 .nil).cell 2).toInt)]),.p (.agg [.int .i64 ((((((t283'.getD t285'.toNat .nil).cell 1).toList).getD 0 .nil).cell 0).toInt),.int .i64 ((((((t283'.getD t285'.toNat .nil).cell 1).toList).getD 0 .nil).cell 1).toInt),.int .i64 ((((((t283'.getD t285'.toNat .nil).cell 1).toList).getD 0 .nil).cell 2).toInt)])] []).bind fun r2 =>
     L tab C 8 [] [.lp [1,1,1,1,1,1,1,1,1,1,1,1,0,1,0],.lp [1,1,0,0,1,1,1,1,1,1,0]] (S8_111111111111010_11001111110 0 ((r1.1.headD .undef).freshList.length) t283' t284' t285' (((r1.1.headD .undef).freshList.length:Nat):Int) 0 ((r1.1.headD .undef).freshList) (((r2.1.headD .undef).pv.cell 0).toInt) (((r2.1.headD .undef).pv.cell 1).toInt) (((r2.1.headD .undef).pv.cell 2).toInt)) else none else none
  else
   (C 13 [.p (.list true kSh [.agg [.int .i64 (((t283'.getD t285'.toNat .nil).cell 0).toInt),.list true kV3 (((t283'.getD t285'.toNat .nil).cell 1).toList),.int .i64 (((t283'.getD t285'.toNat .nil).cell 2).toInt),.int .i64 (((t283'.getD t285'.toNat .nil).cell 3).toInt),.int .i64 (((t283'.getD t285'.toNat .nil).cell 4).toInt),.int .i64 (((t283'.getD t285'.toNat .nil).cell 5).toInt)]])] []).bind fun r3 =>
   bif ((r3.1.tail.headD .undef).pv.toInt != (0:Int)) then
    some ([.p (.bool false)],[])
   else
    bif (ltI (0:Int) (((((t283'.getD t285'.toNat .nil).cell 1).toList).length:Nat):Int)) then bif (ltI (0:Int) (((((t283'.getD t285'.toNat .nil).cell 1).toList).length:Nat):Int)) then(C 26 [.p (.agg [.int .i64 ((((((t283'.getD t285'.toNat .nil).cell 1).toList).getD 0 .nil).cell 0).toInt),.int .i64 ((((((t283'.getD t285'.toNat .nil).cell 1).toList).getD 0 .nil).cell 1).toInt),.int .i64 ((((((t283'.getD t285'.toNat .nil).cell 1).toList).getD 0 .nil).cell 2).toInt)]),.p (.agg [.int .i64 ((((((t283'.getD t285'.toNat .nil).cell 1).toList).getD 0 .nil).cell 0).toInt),.int .i64 ((((((t283'.getD t285'.toNat .nil).cell 1).toList).getD 0 .nil).cell 1).toInt),.int .i64 ((((((t283'.getD t285'.toNat .nil).cell 1).toList).getD 0 .nil).cell 2).toInt)])] []).bind fun r4 =>
    L tab C 8 [] [.lp [1,1,1,1,1,1,1,1,1,1,1,1,0,1,0],.lp [1,1,0,0,1,1,1,1,1,1,0]] (S8_111111111111010_11001111110 0 ((r3.1.headD .undef).freshList.length) t283' t284' t285' (((r3.1.headD .undef).freshList.length:Nat):Int) 0 ((r3.1.headD .undef).freshList) (((r4.1.headD .undef).pv.cell 0).toInt) (((r4.1.headD .undef).pv.cell 1).toInt) (((r4.1.headD .undef).pv.cell 2).toInt)) else none else none else none
 else
  (C 12 [] []).bind fun r5 =>
  some ([.p (.bool ((r5.1.headD .undef).pv.toBool))],[]):=by kernel_rfl
theorem e8_111111111111010_11001111110 (C:CallF) (x_o x_l:Nat)(t283':List PV)(t284' t285' t315' t316':Int)(x_b:List PV)(o_b0 o_b1 o_b2:Int):R tab C 8 [] [.lp [1,1,1,1,1,1,1,1,1,1,1,1,0,1,0],.lp [1,1,0,0,1,1,1,1,1,1,0]] (S8_111111111111010_11001111110 x_o x_l t283' t284' t285' t315' t316' x_b o_b0 o_b1 o_b2) =
 bif (ltI t316' t315') then
  bif ((leI (0:Int) t316')&&(ltI t316' (x_l:Int))) then(C 27 [.p (.agg [.int .i64 o_b0,.int .i64 o_b1,.int .i64 o_b2]),.p (.agg [.int .i64 (((x_b.getD (x_o+t316'.toNat) .nil).cell 0).toInt),.int .i64 (((x_b.getD (x_o+t316'.toNat) .nil).cell 1).toInt),.int .i64 (((x_b.getD (x_o+t316'.toNat) .nil).cell 2).toInt)])] []).bind fun r1 =>
  bif ((leI (0:Int) (IntKind.i64.wrap ((IntKind.i64.wrap ((x_l:Int)-(1:Int)))-t316')))&&(ltI (IntKind.i64.wrap ((IntKind.i64.wrap ((x_l:Int)-(1:Int)))-t316')) (x_l:Int))) then bif (!((((r1.1.headD .undef).pv.cell 0).toInt==((x_b.getD (x_o+(IntKind.i64.wrap ((IntKind.i64.wrap ((x_l:Int)-(1:Int)))-t316')).toNat) .nil).cell 0).toInt)&&((((r1.1.headD .undef).pv.cell 1).toInt==((x_b.getD (x_o+(IntKind.i64.wrap ((IntKind.i64.wrap ((x_l:Int)-(1:Int)))-t316')).toNat) .nil).cell 1).toInt)&&((((r1.1.headD .undef).pv.cell 2).toInt==((x_b.getD (x_o+(IntKind.i64.wrap ((IntKind.i64.wrap ((x_l:Int)-(1:Int)))-t316')).toNat) .nil).cell 2).toInt)&&true)))) then
   some ([.p (.bool false)],[])
  else
   L tab C 8 [] [.lp [1,1,1,1,1,1,1,1,1,1,1,1,0,1,0],.lp [1,1,0,0,1,1,1,1,1,1,0]] (S8_111111111111010_11001111110 x_o x_l t283' t284' t285' t315' (IntKind.i64.wrap (t316'+(1:Int))) x_b o_b0 o_b1 o_b2) else none else none
 else
  L tab C 8 [] [.lp [1,1,1,1,1,1,1,1,1,1,1,1,0,1,0]] (S8_111111111111010 t283' t284' (IntKind.i64.wrap (t285'+(1:Int)))):=by kernel_rfl
def S10_1010 (f' t5':List PV)(t6' t7':Int):St:=⟨(.p (.list true kSh f'))::.undef::.undef::.undef::.undef::(.p (.list true kSh t5'))::(.p (.int .i64 t6'))::(.p (.int .i64 t7'))::List.replicate 27 .undef,[]⟩
theorem e10 (C:CallF) (f:List PV):acallI tab C 10 [.p (.list true kSh f)] [] =
 L tab C 10 [] [.lp [1,0,1,0]] (S10_1010 f f ((f.length:Nat):Int) 0):=by kernel_rfl
theorem e10_1010 (C:CallF) (f' t5':List PV)(t6' t7':Int):R tab C 10 [] [.lp [1,0,1,0]] (S10_1010 f' t5' t6' t7') =
 bif (ltI t7' t6') then
  bif ((leI (0:Int) t7')&&(ltI t7' ((t5'.length:Nat):Int))) then bif (gtI (((((t5'.getD t7'.toNat .nil).cell 1).toList).length:Nat):Int) (8:Int)) then
   bif (gtI t7' (0:Int)) then
    some ([.p (.bool false)],[])
   else
    bif (gtI (((((t5'.getD t7'.toNat .nil).cell 1).toList).length:Nat):Int) (201:Int)) then
     some ([.p (.bool false)],[])
    else
     L tab C 10 [] [.lp [1,0,1,0]] (S10_1010 f' t5' t6' (IntKind.i64.wrap (t7'+(1:Int))))
  else
   L tab C 10 [] [.lp [1,0,1,0]] (S10_1010 f' t5' t6' (IntKind.i64.wrap (t7'+(1:Int)))) else none
 else
  bif (leI ((f'.length:Nat):Int) (6:Int)) then
   some ([.p (.bool true)],[])
  else
   some ([.p (.bool (((f'.length:Nat):Int)==(51:Int)))],[]):=by kernel_rfl
def S11_1010 (t5':List PV)(t6' t7':Int):St:=⟨.undef::.undef::.undef::.undef::.undef::(.p (.list true kSh t5'))::(.p (.int .i64 t6'))::(.p (.int .i64 t7'))::List.replicate 22 .undef,[]⟩
theorem e11 (C:CallF) (f:List PV):acallI tab C 11 [.p (.list true kSh f)] [] =
 L tab C 11 [] [.lp [1,0,1,0]] (S11_1010 f ((f.length:Nat):Int) 0):=by kernel_rfl
theorem e11_1010 (C:CallF) (t5':List PV)(t6' t7':Int):R tab C 11 [] [.lp [1,0,1,0]] (S11_1010 t5' t6' t7') =
 bif (ltI t7' t6') then
  bif ((leI (0:Int) t7')&&(ltI t7' ((t5'.length:Nat):Int))) then bif (gtI (((t5'.getD t7'.toNat .nil).cell 2).toInt) (20:Int)) then
   bif (leI (((t5'.getD t7'.toNat .nil).cell 2).toInt) (500:Int)) then
    some ([.p (.bool false)],[])
   else
    bif (gtI (((t5'.getD t7'.toNat .nil).cell 3).toInt) (6:Int)) then
     bif (leI (((t5'.getD t7'.toNat .nil).cell 3).toInt) (50:Int)) then
      some ([.p (.bool false)],[])
     else
      L tab C 11 [] [.lp [1,0,1,0]] (S11_1010 t5' t6' (IntKind.i64.wrap (t7'+(1:Int))))
    else
     L tab C 11 [] [.lp [1,0,1,0]] (S11_1010 t5' t6' (IntKind.i64.wrap (t7'+(1:Int))))
  else
   bif (gtI (((t5'.getD t7'.toNat .nil).cell 3).toInt) (6:Int)) then
    bif (leI (((t5'.getD t7'.toNat .nil).cell 3).toInt) (50:Int)) then
     some ([.p (.bool false)],[])
    else
     L tab C 11 [] [.lp [1,0,1,0]] (S11_1010 t5' t6' (IntKind.i64.wrap (t7'+(1:Int))))
   else
    L tab C 11 [] [.lp [1,0,1,0]] (S11_1010 t5' t6' (IntKind.i64.wrap (t7'+(1:Int)))) else none
 else
  some ([.p (.bool true)],[]):=by kernel_rfl
def S12_11111111010 (ring_o ring_l c_o c_l:Nat)(i':Int)(ring_b c_b:List PV):St:=⟨.undef::.undef::.undef::(.slice 3 6 ring_o ring_l)::.undef::.undef::.undef::.undef::(.slice 8 3 c_o c_l)::.undef::(.p (.int .i64 i'))::List.replicate 192 .undef,[(3,.arr true kSh ring_b),(8,.arr true kV3 c_b)]⟩
theorem e12 (C:CallF) :acallI tab C 12 [] [] =
 (C 25 [.p (.int .i64 3),.p (.int .i64 0),.p (.int .i64 0)] []).bind fun r1 =>
 (C 25 [.p (.int .i64 1),.p (.int .i64 0),.p (.int .i64 0)] []).bind fun r2 =>
 (C 25 [.p (.int .i64 3),.p (.int .i64 0),.p (.int .i64 0)] []).bind fun r3 =>
 (C 25 [.p (.int .i64 0),.p (.int .i64 0),.p (.int .i64 0)] []).bind fun r4 =>
 (C 25 [.p (.int .i64 3),.p (.int .i64 0),.p (.int .i64 0)] []).bind fun r5 =>
 (C 25 [.p (.int .i64 0),.p (.int .i64 0),.p (.int .i64 0)] []).bind fun r6 =>
 (C 13 [.p (.list true kSh [.agg [.int .i64 1,.list true kV3 [.agg [.int .i64 (((r1.1.headD .undef).pv.cell 0).toInt),.int .i64 (((r1.1.headD .undef).pv.cell 1).toInt),.int .i64 (((r1.1.headD .undef).pv.cell 2).toInt)],.agg [.int .i64 (((r2.1.headD .undef).pv.cell 0).toInt),.int .i64 (((r2.1.headD .undef).pv.cell 1).toInt),.int .i64 (((r2.1.headD .undef).pv.cell 2).toInt)],.agg [.int .i64 (((r3.1.headD .undef).pv.cell 0).toInt),.int .i64 (((r3.1.headD .undef).pv.cell 1).toInt),.int .i64 (((r3.1.headD .undef).pv.cell 2).toInt)]],.int .i64 0,.int .i64 0,.int .i64 0,.int .i64 0]])] []).bind fun r7 =>
 (C 13 [.p (.list true kSh [.agg [.int .i64 2,.list true kV3 [.agg [.int .i64 (((r4.1.headD .undef).pv.cell 0).toInt),.int .i64 (((r4.1.headD .undef).pv.cell 1).toInt),.int .i64 (((r4.1.headD .undef).pv.cell 2).toInt)],.agg [.int .i64 (((r5.1.headD .undef).pv.cell 0).toInt),.int .i64 (((r5.1.headD .undef).pv.cell 1).toInt),.int .i64 (((r5.1.headD .undef).pv.cell 2).toInt)]],.int .i64 2,.int .i64 0,.int .i64 0,.int .i64 0]])] []).bind fun r8 =>
 (C 13 [.p (.list true kSh [.agg [.int .i64 4,.list true kV3 [.agg [.int .i64 (((r6.1.headD .undef).pv.cell 0).toInt),.int .i64 (((r6.1.headD .undef).pv.cell 1).toInt),.int .i64 (((r6.1.headD .undef).pv.cell 2).toInt)]],.int .i64 0,.int .i64 1,.int .i64 10,.int .i64 1]])] []).bind fun r9 =>
 (C 25 [.p (.int .i64 1),.p (.int .i64 0),.p (.int .i64 0)] []).bind fun r10 =>
 (C 25 [.p (.int .i64 3),.p (.int .i64 0),.p (.int .i64 0)] []).bind fun r11 =>
 (C 16 [.p (.list true kV3 ((((r7.1.headD .undef).freshList).drop 0).take ((r7.1.headD .undef).freshList.length))),.p (.list true kV3 [.agg [.int .i64 (((r10.1.headD .undef).pv.cell 0).toInt),.int .i64 (((r10.1.headD .undef).pv.cell 1).toInt),.int .i64 (((r10.1.headD .undef).pv.cell 2).toInt)],.agg [.int .i64 (((r11.1.headD .undef).pv.cell 0).toInt),.int .i64 (((r11.1.headD .undef).pv.cell 1).toInt),.int .i64 (((r11.1.headD .undef).pv.cell 2).toInt)]])] []).bind fun r12 =>
 bif (!(r12.1.headD .undef).pv.toBool) then
  some ([.p (.bool false)],[])
 else
  bif ((r7.1.tail.headD .undef).pv.toInt != (0:Int)) then
   some ([.p (.bool false)],[])
  else
   (C 25 [.p (.int .i64 0),.p (.int .i64 0),.p (.int .i64 0)] []).bind fun r13 =>
   (C 25 [.p (.int .i64 2),.p (.int .i64 0),.p (.int .i64 0)] []).bind fun r14 =>
   (C 25 [.p (.int .i64 3),.p (.int .i64 0),.p (.int .i64 0)] []).bind fun r15 =>
   (C 16 [.p (.list true kV3 ((((r8.1.headD .undef).freshList).drop 0).take ((r8.1.headD .undef).freshList.length))),.p (.list true kV3 [.agg [.int .i64 (((r13.1.headD .undef).pv.cell 0).toInt),.int .i64 (((r13.1.headD .undef).pv.cell 1).toInt),.int .i64 (((r13.1.headD .undef).pv.cell 2).toInt)],.agg [.int .i64 (((r14.1.headD .undef).pv.cell 0).toInt),.int .i64 (((r14.1.headD .undef).pv.cell 1).toInt),.int .i64 (((r14.1.headD .undef).pv.cell 2).toInt)],.agg [.int .i64 (((r15.1.headD .undef).pv.cell 0).toInt),.int .i64 (((r15.1.headD .undef).pv.cell 1).toInt),.int .i64 (((r15.1.headD .undef).pv.cell 2).toInt)]])] []).bind fun r16 =>
   bif (!(r16.1.headD .undef).pv.toBool) then
    some ([.p (.bool false)],[])
   else
    bif ((r8.1.tail.headD .undef).pv.toInt != (0:Int)) then
     some ([.p (.bool false)],[])
    else
     bif ((((r9.1.headD .undef).freshList.length:Nat):Int) != (9:Int)) then
      some ([.p (.bool false)],[])
     else
      bif ((r9.1.tail.headD .undef).pv.toInt != (0:Int)) then
       some ([.p (.bool false)],[])
      else
       L tab C 12 [] [.lp [1,1,1,1,1,1,1,1,0,1,0]] (S12_11111111010 0 1 0 ((r9.1.headD .undef).freshList.length) 0 [.agg [.int .i64 4,.list true kV3 [.agg [.int .i64 (((r6.1.headD .undef).pv.cell 0).toInt),.int .i64 (((r6.1.headD .undef).pv.cell 1).toInt),.int .i64 (((r6.1.headD .undef).pv.cell 2).toInt)]],.int .i64 0,.int .i64 1,.int .i64 10,.int .i64 1]] ((r9.1.headD .undef).freshList)):=by kernel_rfl
theorem e12_11111111010 (C:CallF) (ring_o ring_l c_o c_l:Nat)(i':Int)(ring_b c_b:List PV):R tab C 12 [] [.lp [1,1,1,1,1,1,1,1,0,1,0]] (S12_11111111010 ring_o ring_l c_o c_l i' ring_b c_b) =
 bif (ltI i' (9:Int)) then
  bif ((leI (0:Int) i')&&(ltI i' (c_l:Int))) then(C 25 [.p (.int .i64 (IntKind.i64.wrap ((IntKind.i64.wrap ((10:Int)*(IntKind.i64.wrap (i'.tdiv (3:Int)))))-(10:Int)))),.p (.int .i64 0),.p (.int .i64 (IntKind.i64.wrap ((IntKind.i64.wrap ((10:Int)*(i'.tmod (3:Int))))-(10:Int))))] []).bind fun r1 =>
  bif (!((((c_b.getD (c_o+i'.toNat) .nil).cell 0).toInt==((r1.1.headD .undef).pv.cell 0).toInt)&&((((c_b.getD (c_o+i'.toNat) .nil).cell 1).toInt==((r1.1.headD .undef).pv.cell 1).toInt)&&((((c_b.getD (c_o+i'.toNat) .nil).cell 2).toInt==((r1.1.headD .undef).pv.cell 2).toInt)&&true)))) then
   some ([.p (.bool false)],[])
  else
   L tab C 12 [] [.lp [1,1,1,1,1,1,1,1,0,1,0]] (S12_11111111010 ring_o ring_l c_o c_l (IntKind.i64.wrap (i'+(1:Int))) ring_b c_b) else none
 else
  (C 17 [.p (.list true kSh ((ring_b.drop ring_o).take ring_l))] []).bind fun r2 =>
  bif (!(((r2.1.headD .undef).pv.toStr).toList==(⟨#[114,105,110,103,32,120,122,32,49,32,49,48,32,48,32,48,32,48,10]⟩:ByteArray).toList)) then
   some ([.p (.bool false)],[])
  else
   bif ((r2.1.tail.headD .undef).pv.toInt != (0:Int)) then
    some ([.p (.bool false)],[])
   else
    (C 19 [.p (.str ⟨#[100,111,116,115,32,49,32,50,32,51]⟩)] []).bind fun r3 =>
    (C 19 [.p (.str ⟨#[100,111,116,115,32,49,32,50,10]⟩)] []).bind fun r4 =>
    (C 19 [.p (.str ⟨#[]⟩)] []).bind fun r5 =>
    (C 19 [.p (.str ⟨#[108,111,111,112,32,50,32,48,32,48,32,48,32,49,32,48,32,48,10]⟩)] []).bind fun r6 =>
    bif ((r3.1.tail.headD .undef).pv.toInt != (1:Int)) then
     some ([.p (.bool false)],[])
    else
     bif ((r3.1.tail.tail.headD .undef).pv.toInt != (6:Int)) then
      some ([.p (.bool false)],[])
     else
      bif ((r4.1.tail.headD .undef).pv.toInt != (1:Int)) then
       some ([.p (.bool false)],[])
      else
       bif ((r4.1.tail.tail.headD .undef).pv.toInt != (6:Int)) then
        some ([.p (.bool false)],[])
       else
        bif ((((r5.1.headD .undef).freshList.length:Nat):Int) != (0:Int)) then
         some ([.p (.bool false)],[])
        else
         bif ((r5.1.tail.headD .undef).pv.toInt != (0:Int)) then
          some ([.p (.bool false)],[])
         else
          bif ((r5.1.tail.tail.headD .undef).pv.toInt != (0:Int)) then
           some ([.p (.bool false)],[])
          else
           bif ((r6.1.tail.headD .undef).pv.toInt != (1:Int)) then
            some ([.p (.bool false)],[])
           else
            bif ((r6.1.tail.tail.headD .undef).pv.toInt != (6:Int)) then
             some ([.p (.bool false)],[])
            else
             (C 25 [.p (.int .i64 1),.p (.int .i64 2),.p (.int .i64 3)] []).bind fun r7 =>
             (C 25 [.p (.int .i64 1),.p (.int .i64 (-1)),.p (.int .i64 0)] []).bind fun r8 =>
             (C 22 [.p (.list true kSh [.agg [.int .i64 1,.list true kV3 [.agg [.int .i64 (((r7.1.headD .undef).pv.cell 0).toInt),.int .i64 (((r7.1.headD .undef).pv.cell 1).toInt),.int .i64 (((r7.1.headD .undef).pv.cell 2).toInt)]],.int .i64 0,.int .i64 0,.int .i64 0,.int .i64 0]]),.p (.agg [.int .i64 (((r8.1.headD .undef).pv.cell 0).toInt),.int .i64 (((r8.1.headD .undef).pv.cell 1).toInt),.int .i64 (((r8.1.headD .undef).pv.cell 2).toInt)])] []).bind fun r9 =>
             (C 13 [.p (.list true kSh ((((r9.1.headD .undef).freshList).drop 0).take ((r9.1.headD .undef).freshList.length)))] []).bind fun r10 =>
             bif ((r9.1.tail.headD .undef).pv.toInt==(0:Int)) then
              bif ((r10.1.tail.headD .undef).pv.toInt==(0:Int)) then
               (C 25 [.p (.int .i64 2),.p (.int .i64 1),.p (.int .i64 3)] []).bind fun r11 =>
               (C 21 [.p (.list true kSh ((((r9.1.headD .undef).freshList).drop 0).take ((r9.1.headD .undef).freshList.length))),.p (.list true kSh [.agg [.int .i64 1,.list true kV3 [.agg [.int .i64 (((r11.1.headD .undef).pv.cell 0).toInt),.int .i64 (((r11.1.headD .undef).pv.cell 1).toInt),.int .i64 (((r11.1.headD .undef).pv.cell 2).toInt)]],.int .i64 0,.int .i64 0,.int .i64 0,.int .i64 0]])] []).bind fun r12 =>
               bif (r12.1.headD .undef).pv.toBool then
                (C 25 [.p (.int .i64 2),.p (.int .i64 1),.p (.int .i64 3)] []).bind fun r13 =>
                (C 16 [.p (.list true kV3 ((((r10.1.headD .undef).freshList).drop 0).take ((r10.1.headD .undef).freshList.length))),.p (.list true kV3 [.agg [.int .i64 (((r13.1.headD .undef).pv.cell 0).toInt),.int .i64 (((r13.1.headD .undef).pv.cell 1).toInt),.int .i64 (((r13.1.headD .undef).pv.cell 2).toInt)]])] []).bind fun r14 =>
                some ([.p (.bool ((r14.1.headD .undef).pv.toBool))],[])
               else
                some ([.p (.bool false)],[])
              else
               some ([.p (.bool false)],[])
             else
              some ([.p (.bool false)],[]):=by kernel_rfl
def S13_111010 (t12':List PV)(t13' t14' b3_b0:Int) (b11_b:List (PV × PV)):St:=⟨.undef::.undef::(.ptr 2 0 0)::(.ptr 3 0 0)::(.ptr 4 0 0)::.undef::.undef::.undef::.undef::.undef::.undef::.undef::(.p (.list true kSh t12'))::(.p (.int .i64 t13'))::(.p (.int .i64 t14'))::List.replicate 18 .undef,[(2,.box [.p (.nil)]),(3,.box [.p (.int .i64 b3_b0)]),(11,.mp 58 b11_b),(4,.box [.mref 11])]⟩
def S13_111010_1100110 (t12':List PV)(t13' t14':Int) (t19:PV) (b3_b0:Int) (b11_b:List (PV × PV)):St:=⟨.undef::.undef::(.ptr 2 0 0)::(.ptr 3 0 0)::(.ptr 4 0 0)::.undef::.undef::.undef::.undef::.undef::.undef::.undef::(.p (.list true kSh t12'))::(.p (.int .i64 t13'))::(.p (.int .i64 t14'))::.undef::.undef::.undef::.undef::(.p t19)::List.replicate 13 .undef,[(2,.box [.p (.nil)]),(3,.box [.p (.int .i64 b3_b0)]),(11,.mp 58 b11_b),(4,.box [.mref 11])]⟩
theorem e13 (C:CallF) (f:List PV):acallI tab C 13 [.p (.list true kSh f)] [] =
 (C 28 [.p (.list true kSh f)] []).bind fun r1 =>
 bif (!(r1.1.headD .undef).pv.toBool) then
  some ([.fresh true kV3 [],.p (.int .i64 2)],[])
 else
  L tab C 13 [] [.lp [1,1,1,0,1,0]] (S13_111010 f ((f.length:Nat):Int) 0 0 ([]:List (PV × PV))):=by kernel_rfl
theorem e13_111010 (C:CallF) (t12':List PV)(t13' t14' b3_b0:Int) (b11_b:List (PV × PV)):R tab C 13 [] [.lp [1,1,1,0,1,0]] (S13_111010 t12' t13' t14' b3_b0 b11_b) =
 bif (ltI t14' t13') then
  bif ((leI (0:Int) t14')&&(ltI t14' ((t12'.length:Nat):Int))) then(C 30 [.p (.agg [.int .i64 (((t12'.getD t14'.toNat .nil).cell 0).toInt),.list true kV3 (((t12'.getD t14'.toNat .nil).cell 1).toList),.int .i64 (((t12'.getD t14'.toNat .nil).cell 2).toInt),.int .i64 (((t12'.getD t14'.toNat .nil).cell 3).toInt),.int .i64 (((t12'.getD t14'.toNat .nil).cell 4).toInt),.int .i64 (((t12'.getD t14'.toNat .nil).cell 5).toInt)])] []).bind fun r1 =>
  bif (PV.isFn 92 [(true,[.slice true kV3])] ((r1.1.headD .undef).pv)) then
   (C 92 [.yld,.p (.ref [.list true kV3 ((((r1.1.headD .undef).pv.cap 0).rcell 0).toList)])] [.log true []]).bind fun r2 =>
   L tab C 13 [] [.lp [1,1,1,0,1,0],.rg [1,1,0,0,1,1,0] [(true,kV3)] (logOf r2.2)] (S13_111010_1100110 t12' t13' t14' (.fn 92 [.ref [.list true kV3 ((((r1.1.headD .undef).pv.cap 0).rcell 0).toList)]]) b3_b0 b11_b)
  else
   bif (PV.isFn 93 [(true,kSh)] ((r1.1.headD .undef).pv)) then
    (C 93 [.yld,.p (.ref [.int .i64 ((((r1.1.headD .undef).pv.cap 0).rcell 0).toInt),.list true kV3 ((((r1.1.headD .undef).pv.cap 0).rcell 1).toList),.int .i64 ((((r1.1.headD .undef).pv.cap 0).rcell 2).toInt),.int .i64 ((((r1.1.headD .undef).pv.cap 0).rcell 3).toInt),.int .i64 ((((r1.1.headD .undef).pv.cap 0).rcell 4).toInt),.int .i64 ((((r1.1.headD .undef).pv.cap 0).rcell 5).toInt)])] [.log true []]).bind fun r3 =>
    L tab C 13 [] [.lp [1,1,1,0,1,0],.rg [1,1,0,0,1,1,0] [(true,kV3)] (logOf r3.2)] (S13_111010_1100110 t12' t13' t14' (.fn 93 [.ref [.int .i64 ((((r1.1.headD .undef).pv.cap 0).rcell 0).toInt),.list true kV3 ((((r1.1.headD .undef).pv.cap 0).rcell 1).toList),.int .i64 ((((r1.1.headD .undef).pv.cap 0).rcell 2).toInt),.int .i64 ((((r1.1.headD .undef).pv.cap 0).rcell 3).toInt),.int .i64 ((((r1.1.headD .undef).pv.cap 0).rcell 4).toInt),.int .i64 ((((r1.1.headD .undef).pv.cap 0).rcell 5).toInt)]]) b3_b0 b11_b)
   else
    bif (PV.isFn 95 [(true,kSh)] ((r1.1.headD .undef).pv)) then(C 95 [.yld,.p (.ref [.int .i64 ((((r1.1.headD .undef).pv.cap 0).rcell 0).toInt),.list true kV3 ((((r1.1.headD .undef).pv.cap 0).rcell 1).toList),.int .i64 ((((r1.1.headD .undef).pv.cap 0).rcell 2).toInt),.int .i64 ((((r1.1.headD .undef).pv.cap 0).rcell 3).toInt),.int .i64 ((((r1.1.headD .undef).pv.cap 0).rcell 4).toInt),.int .i64 ((((r1.1.headD .undef).pv.cap 0).rcell 5).toInt)])] [.log true []]).bind fun r4 =>
    L tab C 13 [] [.lp [1,1,1,0,1,0],.rg [1,1,0,0,1,1,0] [(true,kV3)] (logOf r4.2)] (S13_111010_1100110 t12' t13' t14' (.fn 95 [.ref [.int .i64 ((((r1.1.headD .undef).pv.cap 0).rcell 0).toInt),.list true kV3 ((((r1.1.headD .undef).pv.cap 0).rcell 1).toList),.int .i64 ((((r1.1.headD .undef).pv.cap 0).rcell 2).toInt),.int .i64 ((((r1.1.headD .undef).pv.cap 0).rcell 3).toInt),.int .i64 ((((r1.1.headD .undef).pv.cap 0).rcell 4).toInt),.int .i64 ((((r1.1.headD .undef).pv.cap 0).rcell 5).toInt)]]) b3_b0 b11_b) else none else none
 else
  bif (gtI ((b11_b.length:Nat):Int) (4096:Int)) then
   some ([.fresh true kV3 [],.p (.int .i64 7)],[])
  else
   (C 33 [.p (.mapv (b11_b.map (fun x=>x.1)) (b11_b.map (fun x=>x.2)))] []).bind fun r5 =>
   (C 32 [.p (.fn 64 [.ref [(((r5.1.headD .undef).pv.cap 0).rcell 0)]]),.p (.fn 34 [])] []).bind fun r6 =>
   some ([.fresh true kV3 ((((r6.1.headD .undef).freshList).drop 0).take ((r6.1.headD .undef).freshList.length)),.p (.int .i64 0)],[]):=by kernel_rfl
theorem e13_111010_1100110_nil (C:CallF) (t12':List PV)(t13' t14':Int) (t19:PV) (b3_b0:Int) (b11_b:List (PV × PV)):L tab C 13 [] [.lp [1,1,1,0,1,0],.rg [1,1,0,0,1,1,0] [(true,kV3)] []] (S13_111010_1100110 t12' t13' t14' t19 b3_b0 b11_b) =
 L tab C 13 [] [.lp [1,1,1,0,1,0]] (S13_111010 t12' t13' (IntKind.i64.wrap (t14'+(1:Int))) b3_b0 b11_b):=by kernel_rfl
theorem e13_111010_1100110_cons (C:CallF) (t12':List PV)(t13' t14':Int) (t19:PV) (b3_b0:Int) (b11_b:List (PV × PV)) (y0_0 y0_1 y0_2:Int)(ys:List PV):L tab C 13 [] [.lp [1,1,1,0,1,0],.rg [1,1,0,0,1,1,0] [(true,kV3)] (.agg [.agg [.int .i64 y0_0,.int .i64 y0_1,.int .i64 y0_2]]::ys)] (S13_111010_1100110 t12' t13' t14' t19 b3_b0 b11_b) =
 (C 31 [.p (.agg [.int .i64 y0_0,.int .i64 y0_1,.int .i64 y0_2])] []).bind fun r1 =>
 bif (!(r1.1.headD .undef).pv.toBool) then
  some ([.fresh true kV3 [],.p (.int .i64 3)],[])
 else
  bif (mapFind tab 43 [.int .i64 y0_0,.int .i64 y0_1,.int .i64 y0_2] b11_b).isSome then L tab C 13 [] [.lp [1,1,1,0,1,0],.rg [1,1,0,0,1,1,0] [(true,kV3)] ys] (S13_111010_1100110 t12' t13' t14' t19 b3_b0 (mapPut b11_b (PV.agg [.int .i64 y0_0,.int .i64 y0_1,.int .i64 y0_2]) (PV.bool true) ((mapFind tab 43 [.int .i64 y0_0,.int .i64 y0_1,.int .i64 y0_2] b11_b).getD none))) else none:=by kernel_rfl
def S14_1010 (f':List PV)(i':Int):St:=⟨(.p (.list true kSh f'))::.undef::.undef::(.p (.int .i64 i'))::List.replicate 15 .undef,[]⟩
theorem e14 (C:CallF) (f:List PV):acallI tab C 14 [.p (.list true kSh f)] [] =
 L tab C 14 [] [.lp [1,0,1,0]] (S14_1010 f 0):=by kernel_rfl
theorem e14_1010 (C:CallF) (f':List PV)(i':Int):R tab C 14 [] [.lp [1,0,1,0]] (S14_1010 f' i') =
 bif (ltI i' ((f'.length:Nat):Int)) then
  bif ((leI (0:Int) i')&&(ltI i' ((f'.length:Nat):Int))) then(C 35 [.p (.agg [.int .i64 (((f'.getD i'.toNat .nil).cell 0).toInt),.list true kV3 (((f'.getD i'.toNat .nil).cell 1).toList),.int .i64 (((f'.getD i'.toNat .nil).cell 2).toInt),.int .i64 (((f'.getD i'.toNat .nil).cell 3).toInt),.int .i64 (((f'.getD i'.toNat .nil).cell 4).toInt),.int .i64 (((f'.getD i'.toNat .nil).cell 5).toInt)])] []).bind fun r1 =>
  bif (!(r1.1.headD .undef).pv.toBool) then
   some ([.p (.bool false)],[])
  else
   L tab C 14 [] [.lp [1,0,1,0]] (S14_1010 f' (IntKind.i64.wrap (i'+(1:Int)))) else none
 else
  some ([.p (.bool (leI ((f'.length:Nat):Int) (50:Int)))],[]):=by kernel_rfl
def S16_11010 (a' b':List PV)(i':Int):St:=⟨(.p (.list true kV3 a'))::(.p (.list true kV3 b'))::.undef::.undef::.undef::(.p (.int .i64 i'))::List.replicate 20 .undef,[]⟩
theorem e16 (C:CallF) (a b:List PV):acallI tab C 16 [.p (.list true kV3 a),.p (.list true kV3 b)] [] =
 bif (((a.length:Nat):Int) != ((b.length:Nat):Int)) then
  some ([.p (.bool false)],[])
 else
  L tab C 16 [] [.lp [1,1,0,1,0]] (S16_11010 a b 0):=by kernel_rfl
theorem e16_11010 (C:CallF) (a' b':List PV)(i':Int):R tab C 16 [] [.lp [1,1,0,1,0]] (S16_11010 a' b' i') =
 bif (ltI i' ((a'.length:Nat):Int)) then
  bif ((leI (0:Int) i')&&(ltI i' ((a'.length:Nat):Int))) then bif ((leI (0:Int) i')&&(ltI i' ((b'.length:Nat):Int))) then bif (!((((a'.getD i'.toNat .nil).cell 0).toInt==((b'.getD i'.toNat .nil).cell 0).toInt)&&((((a'.getD i'.toNat .nil).cell 1).toInt==((b'.getD i'.toNat .nil).cell 1).toInt)&&((((a'.getD i'.toNat .nil).cell 2).toInt==((b'.getD i'.toNat .nil).cell 2).toInt)&&true)))) then
   some ([.p (.bool false)],[])
  else
   L tab C 16 [] [.lp [1,1,0,1,0]] (S16_11010 a' b' (IntKind.i64.wrap (i'+(1:Int)))) else none else none
 else
  some ([.p (.bool true)],[]):=by kernel_rfl
def S17_111010 (t10':List PV)(t11' t12':Int):St:=⟨.undef::.undef::.undef::.undef::(.ptr 4 0 0)::.undef::.undef::.undef::.undef::.undef::(.p (.list true kSh t10'))::(.p (.int .i64 t11'))::(.p (.int .i64 t12'))::List.replicate 9 .undef,[(4,.tb 72 (.p (.nilp)) (.p (.nil)))]⟩
def S17_111010_s1 (t10':List PV)(t11' t12':Int)(b19_b:List PV):St:=⟨.undef::.undef::.undef::.undef::(.ptr 4 0 0)::.undef::.undef::.undef::.undef::.undef::(.p (.list true kSh t10'))::(.p (.int .i64 t11'))::(.p (.int .i64 t12'))::List.replicate 9 .undef,[(4,.tb 72 (.ptr 4 0 0) (.mref 19)),(19,.br 5 b19_b)]⟩
theorem e17 (C:CallF) (f:List PV):acallI tab C 17 [.p (.list true kSh f)] [] =
 (C 28 [.p (.list true kSh f)] []).bind fun r1 =>
 bif (!(r1.1.headD .undef).pv.toBool) then
  some ([.p (.str ⟨#[]⟩),.p (.int .i64 2)],[])
 else
  L tab C 17 [] [.lp [1,1,1,0,1,0]] (S17_111010 f ((f.length:Nat):Int) 0):=by kernel_rfl
theorem e17_111010 (C:CallF) (t10':List PV)(t11' t12':Int):R tab C 17 [] [.lp [1,1,1,0,1,0]] (S17_111010 t10' t11' t12') =
 bif (ltI t12' t11') then
  bif ((leI (0:Int) t12')&&(ltI t12' ((t10'.length:Nat):Int))) then(C 40 [.p (.agg [.int .i64 (((t10'.getD t12'.toNat .nil).cell 0).toInt),.list true kV3 (((t10'.getD t12'.toNat .nil).cell 1).toList),.int .i64 (((t10'.getD t12'.toNat .nil).cell 2).toInt),.int .i64 (((t10'.getD t12'.toNat .nil).cell 3).toInt),.int .i64 (((t10'.getD t12'.toNat .nil).cell 4).toInt),.int .i64 (((t10'.getD t12'.toNat .nil).cell 5).toInt)])] []).bind fun r1 =>
  bif (leN (((r1.1.headD .undef).pv.toStr).size+(⟨#[10]⟩:ByteArray).size) 4611686018427387904) then bif (leN (((r1.1.headD .undef).pv.toStr++(⟨#[10]⟩:ByteArray)).size) 2147483648) then L tab C 17 [] [.lp [1,1,1,0,1,0]] (S17_111010_s1 t10' t11' (IntKind.i64.wrap (t12'+(1:Int))) (strPVs ((r1.1.headD .undef).pv.toStr++(⟨#[10]⟩:ByteArray)))) else none else none else none
 else
  some ([.p (.str ⟨#[]⟩),.p (.int .i64 0)],[]):=by kernel_rfl
theorem e17_111010_s1 (C:CallF) (t10':List PV)(t11' t12':Int)(b19_b:List PV):R tab C 17 [] [.lp [1,1,1,0,1,0]] (S17_111010_s1 t10' t11' t12' b19_b) =
 bif (ltI t12' t11') then
  bif ((leI (0:Int) t12')&&(ltI t12' ((t10'.length:Nat):Int))) then(C 40 [.p (.agg [.int .i64 (((t10'.getD t12'.toNat .nil).cell 0).toInt),.list true kV3 (((t10'.getD t12'.toNat .nil).cell 1).toList),.int .i64 (((t10'.getD t12'.toNat .nil).cell 2).toInt),.int .i64 (((t10'.getD t12'.toNat .nil).cell 3).toInt),.int .i64 (((t10'.getD t12'.toNat .nil).cell 4).toInt),.int .i64 (((t10'.getD t12'.toNat .nil).cell 5).toInt)])] []).bind fun r1 =>
  bif (leN (((r1.1.headD .undef).pv.toStr).size+(⟨#[10]⟩:ByteArray).size) 4611686018427387904) then bif (leN (b19_b.length+((r1.1.headD .undef).pv.toStr++(⟨#[10]⟩:ByteArray)).size) 2147483648) then L tab C 17 [] [.lp [1,1,1,0,1,0]] (S17_111010_s1 t10' t11' (IntKind.i64.wrap (t12'+(1:Int))) (b19_b++(strPVs ((r1.1.headD .undef).pv.toStr++(⟨#[10]⟩:ByteArray))))) else none else none else none
 else
  bif (leN b19_b.length 2147483648) then bif (b19_b.all PV.isByte) then some ([.p (.str (bytesOf b19_b)),.p (.int .i64 0)],[]) else none else none:=by kernel_rfl
def S19_11010 (s':ByteArray)(f_o f_l:Nat)(number':Int)(f_b:List PV):St:=⟨(.p (.str s'))::.undef::.undef::.undef::.undef::(.slice 5 6 f_o f_l)::(.p (.int .i64 number'))::List.replicate 36 .undef,[(5,.arr true kSh f_b)]⟩
theorem e19 (C:CallF) (s:ByteArray):acallI tab C 19 [.p (.str s)] [] =
 L tab C 19 [] [.lp [1,1,0,1,0]] (S19_11010 s 0 0 1 []):=by kernel_rfl
theorem e19_11010 (C:CallF) (s':ByteArray)(f_o f_l:Nat)(number':Int)(f_b:List PV):R tab C 19 [] [.lp [1,1,0,1,0]] (S19_11010 s' f_o f_l number' f_b) =
 bif (!(s'.toList==(⟨#[]⟩:ByteArray).toList)) then
  bif (gtI number' (50:Int)) then
   some ([.fresh true kSh [],.p (.int .i64 number'),.p (.int .i64 7)],[])
  else
   (C 43 [.p (.str s'),.p (.str ⟨#[10]⟩)] []).bind fun r1 =>
   (C 44 [.p (.str ((r1.1.headD .undef).pv.toStr))] []).bind fun r2 =>
   bif (!(r2.1.tail.headD .undef).pv.toBool) then
    some ([.fresh true kSh [],.p (.int .i64 number'),.p (.int .i64 6)],[])
   else
    bif (!(r1.1.tail.tail.headD .undef).pv.toBool) then
     some ([.fresh true kSh [],.p (.int .i64 number'),.p (.int .i64 6)],[])
    else
     bif (leN (f_l+1) 2147483648) then L tab C 19 [] [.lp [1,1,0,1,0]] (S19_11010 ((r1.1.tail.headD .undef).pv.toStr) 0 (f_l+1) (IntKind.i64.wrap (number'+(1:Int))) (((f_b.drop f_o).take f_l)++([.agg [.int .i64 (((r2.1.headD .undef).pv.cell 0).toInt),.list true kV3 (((r2.1.headD .undef).pv.cell 1).toList),.int .i64 (((r2.1.headD .undef).pv.cell 2).toInt),.int .i64 (((r2.1.headD .undef).pv.cell 3).toInt),.int .i64 (((r2.1.headD .undef).pv.cell 4).toInt),.int .i64 (((r2.1.headD .undef).pv.cell 5).toInt)]]:List PV))) else none
 else
  some ([.fresh true kSh ((f_b.drop f_o).take f_l),.p (.int .i64 0),.p (.int .i64 0)],[]):=by kernel_rfl
def S21_11010 (a' b':List PV)(i':Int):St:=⟨(.p (.list true kSh a'))::(.p (.list true kSh b'))::.undef::.undef::.undef::(.p (.int .i64 i'))::List.replicate 62 .undef,[]⟩
theorem e21 (C:CallF) (a b:List PV):acallI tab C 21 [.p (.list true kSh a),.p (.list true kSh b)] [] =
 bif (((a.length:Nat):Int) != ((b.length:Nat):Int)) then
  some ([.p (.bool false)],[])
 else
  L tab C 21 [] [.lp [1,1,0,1,0]] (S21_11010 a b 0):=by kernel_rfl
theorem e21_11010 (C:CallF) (a' b':List PV)(i':Int):R tab C 21 [] [.lp [1,1,0,1,0]] (S21_11010 a' b' i') =
 bif (ltI i' ((a'.length:Nat):Int)) then
  bif ((leI (0:Int) i')&&(ltI i' ((a'.length:Nat):Int))) then bif ((leI (0:Int) i')&&(ltI i' ((b'.length:Nat):Int))) then bif (((a'.getD i'.toNat .nil).cell 0).toInt != ((b'.getD i'.toNat .nil).cell 0).toInt) then
   some ([.p (.bool false)],[])
  else
   bif (((a'.getD i'.toNat .nil).cell 2).toInt != ((b'.getD i'.toNat .nil).cell 2).toInt) then
    some ([.p (.bool false)],[])
   else
    bif (((a'.getD i'.toNat .nil).cell 3).toInt != ((b'.getD i'.toNat .nil).cell 3).toInt) then
     some ([.p (.bool false)],[])
    else
     bif (((a'.getD i'.toNat .nil).cell 4).toInt != ((b'.getD i'.toNat .nil).cell 4).toInt) then
      some ([.p (.bool false)],[])
     else
      bif (((a'.getD i'.toNat .nil).cell 5).toInt != ((b'.getD i'.toNat .nil).cell 5).toInt) then
       some ([.p (.bool false)],[])
      else
       (C 16 [.p (.list true kV3 (((a'.getD i'.toNat .nil).cell 1).toList)),.p (.list true kV3 (((b'.getD i'.toNat .nil).cell 1).toList))] []).bind fun r1 =>
       bif (!(r1.1.headD .undef).pv.toBool) then
        some ([.p (.bool false)],[])
       else
        L tab C 21 [] [.lp [1,1,0,1,0]] (S21_11010 a' b' (IntKind.i64.wrap (i'+(1:Int)))) else none else none
 else
  some ([.p (.bool true)],[]):=by kernel_rfl
def S22_111010 (out_o out_l:Nat)(t21':List PV)(t22' t23' by_b0 by_b1 by_b2:Int)(out_b:List PV):St:=⟨.undef::.undef::.undef::(.ptr 3 0 0)::.undef::.undef::(.slice 6 6 out_o out_l)::.undef::.undef::.undef::.undef::.undef::.undef::.undef::.undef::.undef::.undef::.undef::.undef::.undef::.undef::(.p (.list true kSh t21'))::(.p (.int .i64 t22'))::(.p (.int .i64 t23'))::List.replicate 40 .undef,[(3,.box [.p (.int .i64 by_b0),.p (.int .i64 by_b1),.p (.int .i64 by_b2)]),(6,.arr true kSh out_b)]⟩
def S22_111010_110011010 (out_o out_l:Nat)(t21':List PV)(t22' t23':Int)(t32_o t32_l:Nat)(t33' t34' by_b0 by_b1 by_b2:Int)(out_b:List PV)(s_b0:Int)(s_b1_o s_b1_l:Nat)(s_b2 s_b3 s_b4 s_b5:Int)(b29_b:List PV):St:=⟨.undef::.undef::.undef::(.ptr 3 0 0)::.undef::.undef::(.slice 6 6 out_o out_l)::.undef::(.ptr 8 0 0)::.undef::.undef::.undef::.undef::.undef::.undef::.undef::.undef::.undef::.undef::.undef::.undef::(.p (.list true kSh t21'))::(.p (.int .i64 t22'))::(.p (.int .i64 t23'))::.undef::.undef::.undef::.undef::.undef::.undef::.undef::.undef::(.slice 29 3 t32_o t32_l)::(.p (.int .i64 t33'))::(.p (.int .i64 t34'))::List.replicate 29 .undef,[(3,.box [.p (.int .i64 by_b0),.p (.int .i64 by_b1),.p (.int .i64 by_b2)]),(6,.arr true kSh out_b),(8,.box [.p (.int .i64 s_b0),.slice 29 3 s_b1_o s_b1_l,.p (.int .i64 s_b2),.p (.int .i64 s_b3),.p (.int .i64 s_b4),.p (.int .i64 s_b5)]),(29,.arr true kV3 b29_b)]⟩
theorem e22 (C:CallF) (f:List PV)(by__0 by__1 by__2:Int):acallI tab C 22 [.p (.list true kSh f),.p (.agg [.int .i64 by__0,.int .i64 by__1,.int .i64 by__2])] [] =
 (C 28 [.p (.list true kSh f)] []).bind fun r1 =>
 bif (!(r1.1.headD .undef).pv.toBool) then
  some ([.fresh true kSh [],.p (.int .i64 2)],[])
 else
  (C 47 [.p (.agg [.int .i64 by__0,.int .i64 by__1,.int .i64 by__2])] []).bind fun r2 =>
  bif (!(r2.1.headD .undef).pv.toBool) then
   some ([.fresh true kSh [],.p (.int .i64 2)],[])
  else
   L tab C 22 [] [.lp [1,1,1,0,1,0]] (S22_111010 0 0 f ((f.length:Nat):Int) 0 by__0 by__1 by__2 []):=by kernel_rfl
theorem e22_111010 (C:CallF) (out_o out_l:Nat)(t21':List PV)(t22' t23' by_b0 by_b1 by_b2:Int)(out_b:List PV):R tab C 22 [] [.lp [1,1,1,0,1,0]] (S22_111010 out_o out_l t21' t22' t23' by_b0 by_b1 by_b2 out_b) =
 bif (ltI t23' t22') then
  bif ((leI (0:Int) t23')&&(ltI t23' ((t21'.length:Nat):Int))) then(C 48 [.p (.list true kV3 (((t21'.getD t23'.toNat .nil).cell 1).toList))] []).bind fun r1 =>
  L tab C 22 [] [.lp [1,1,1,0,1,0],.lp [1,1,0,0,1,1,0,1,0]] (S22_111010_110011010 out_o out_l t21' t22' t23' 0 ((r1.1.headD .undef).freshList.length) (((r1.1.headD .undef).freshList.length:Nat):Int) 0 by_b0 by_b1 by_b2 out_b (((t21'.getD t23'.toNat .nil).cell 0).toInt) 0 ((r1.1.headD .undef).freshList.length) (((t21'.getD t23'.toNat .nil).cell 2).toInt) (((t21'.getD t23'.toNat .nil).cell 3).toInt) (((t21'.getD t23'.toNat .nil).cell 4).toInt) (((t21'.getD t23'.toNat .nil).cell 5).toInt) ((r1.1.headD .undef).freshList)) else none
 else
  some ([.fresh true kSh ((out_b.drop out_o).take out_l),.p (.int .i64 0)],[]):=by kernel_rfl
theorem e22_111010_110011010 (C:CallF) (out_o out_l:Nat)(t21':List PV)(t22' t23':Int)(t32_o t32_l:Nat)(t33' t34' by_b0 by_b1 by_b2:Int)(out_b:List PV)(s_b0:Int)(s_b1_o s_b1_l:Nat)(s_b2 s_b3 s_b4 s_b5:Int)(b29_b:List PV):R tab C 22 [] [.lp [1,1,1,0,1,0],.lp [1,1,0,0,1,1,0,1,0]] (S22_111010_110011010 out_o out_l t21' t22' t23' t32_o t32_l t33' t34' by_b0 by_b1 by_b2 out_b s_b0 s_b1_o s_b1_l s_b2 s_b3 s_b4 s_b5 b29_b) =
 bif (ltI t34' t33') then
  bif ((leI (0:Int) t34')&&(ltI t34' (t32_l:Int))) then(C 49 [.p (.agg [.int .i64 (((b29_b.getD (t32_o+t34'.toNat) .nil).cell 0).toInt),.int .i64 (((b29_b.getD (t32_o+t34'.toNat) .nil).cell 1).toInt),.int .i64 (((b29_b.getD (t32_o+t34'.toNat) .nil).cell 2).toInt)]),.p (.agg [.int .i64 by_b0,.int .i64 by_b1,.int .i64 by_b2])] []).bind fun r1 =>
  bif ((r1.1.tail.headD .undef).pv.toInt != (0:Int)) then
   some ([.fresh true kSh [],.p (.int .i64 3)],[])
  else
   (C 31 [.p (.agg [.int .i64 (((r1.1.headD .undef).pv.cell 0).toInt),.int .i64 (((r1.1.headD .undef).pv.cell 1).toInt),.int .i64 (((r1.1.headD .undef).pv.cell 2).toInt)])] []).bind fun r2 =>
   bif (!(r2.1.headD .undef).pv.toBool) then
    some ([.fresh true kSh [],.p (.int .i64 3)],[])
   else
    bif ((leI (0:Int) t34')&&(ltI t34' (s_b1_l:Int))) then L tab C 22 [] [.lp [1,1,1,0,1,0],.lp [1,1,0,0,1,1,0,1,0]] (S22_111010_110011010 out_o out_l t21' t22' t23' t32_o t32_l t33' (IntKind.i64.wrap (t34'+(1:Int))) by_b0 by_b1 by_b2 out_b s_b0 s_b1_o s_b1_l s_b2 s_b3 s_b4 s_b5 (b29_b.set (s_b1_o+t34'.toNat) (PV.agg [.int .i64 (((r1.1.headD .undef).pv.cell 0).toInt),.int .i64 (((r1.1.headD .undef).pv.cell 1).toInt),.int .i64 (((r1.1.headD .undef).pv.cell 2).toInt)]))) else none else none
 else
  bif (leN (out_l+1) 2147483648) then L tab C 22 [] [.lp [1,1,1,0,1,0]] (S22_111010 0 (out_l+1) t21' t22' (IntKind.i64.wrap (t23'+(1:Int))) by_b0 by_b1 by_b2 (((out_b.drop out_o).take out_l)++([.agg [.int .i64 s_b0,.list true kV3 ((b29_b.drop s_b1_o).take s_b1_l),.int .i64 s_b2,.int .i64 s_b3,.int .i64 s_b4,.int .i64 s_b5]]:List PV))) else none:=by kernel_rfl
theorem e25 (C:CallF) (x y z:Int):acallI tab C 25 [.p (.int .i64 x),.p (.int .i64 y),.p (.int .i64 z)] [] =
 some ([.p (.agg [.int .i64 x,.int .i64 y,.int .i64 z])],[]):=by kernel_rfl
theorem e26 (C:CallF) (a_0 a_1 a_2 b_0 b_1 b_2:Int):acallI tab C 26 [.p (.agg [.int .i64 a_0,.int .i64 a_1,.int .i64 a_2]),.p (.agg [.int .i64 b_0,.int .i64 b_1,.int .i64 b_2])] [] =
 some ([.p (.agg [.int .i64 (IntKind.i64.wrap (a_0+b_0)),.int .i64 (IntKind.i64.wrap (a_1+b_1)),.int .i64 (IntKind.i64.wrap (a_2+b_2))])],[]):=by kernel_rfl
theorem e27 (C:CallF) (a_0 a_1 a_2 b_0 b_1 b_2:Int):acallI tab C 27 [.p (.agg [.int .i64 a_0,.int .i64 a_1,.int .i64 a_2]),.p (.agg [.int .i64 b_0,.int .i64 b_1,.int .i64 b_2])] [] =
 (C 51 [.p (.agg [.int .i64 b_0,.int .i64 b_1,.int .i64 b_2])] []).bind fun r1 =>
 (C 26 [.p (.agg [.int .i64 a_0,.int .i64 a_1,.int .i64 a_2]),.p (.agg [.int .i64 (((r1.1.headD .undef).pv.cell 0).toInt),.int .i64 (((r1.1.headD .undef).pv.cell 1).toInt),.int .i64 (((r1.1.headD .undef).pv.cell 2).toInt)])] []).bind fun r2 =>
 some ([.p (.agg [.int .i64 (((r2.1.headD .undef).pv.cell 0).toInt),.int .i64 (((r2.1.headD .undef).pv.cell 1).toInt),.int .i64 (((r2.1.headD .undef).pv.cell 2).toInt)])],[]):=by kernel_rfl
theorem e28 (C:CallF) (f:List PV):acallI tab C 28 [.p (.list true kSh f)] [] =
 bif (leI ((f.length:Nat):Int) (50:Int)) then
  (C 52 [.p (.list true kSh f),.p (.fn 53 [])] []).bind fun r1 =>
  some ([.p (.bool (!(r1.1.headD .undef).pv.toBool))],[])
 else
  some ([.p (.bool false)],[]):=by kernel_rfl
theorem e30 (C:CallF) (s_0:Int)(s_1:List PV)(s_2 s_3 s_4 s_5:Int):acallI tab C 30 [.p (.agg [.int .i64 s_0,.list true kV3 s_1,.int .i64 s_2,.int .i64 s_3,.int .i64 s_4,.int .i64 s_5])] [] =
 bif (s_0==(1:Int)) then
  (C 58 [.p (.list true kV3 s_1)] []).bind fun r1 =>
  some ([.p (.fn 92 [.ref [.list true kV3 ((((r1.1.headD .undef).pv.cap 0).rcell 0).toList)]])],[])
 else
  bif (s_0==(2:Int)) then
   bif (s_0==(2:Int)) then
    (C 59 [.p (.agg [.int .i64 s_0,.list true kV3 s_1,.int .i64 s_2,.int .i64 s_3,.int .i64 s_4,.int .i64 s_5])] []).bind fun r2 =>
    some ([.p (.fn 93 [.ref [.int .i64 ((((r2.1.headD .undef).pv.cap 0).rcell 0).toInt),.list true kV3 ((((r2.1.headD .undef).pv.cap 0).rcell 1).toList),.int .i64 ((((r2.1.headD .undef).pv.cap 0).rcell 2).toInt),.int .i64 ((((r2.1.headD .undef).pv.cap 0).rcell 3).toInt),.int .i64 ((((r2.1.headD .undef).pv.cap 0).rcell 4).toInt),.int .i64 ((((r2.1.headD .undef).pv.cap 0).rcell 5).toInt)]])],[])
   else
    (C 60 [.p (.agg [.int .i64 s_0,.list true kV3 s_1,.int .i64 s_2,.int .i64 s_3,.int .i64 s_4,.int .i64 s_5])] []).bind fun r3 =>
    some ([.p (.fn 95 [.ref [.int .i64 ((((r3.1.headD .undef).pv.cap 0).rcell 0).toInt),.list true kV3 ((((r3.1.headD .undef).pv.cap 0).rcell 1).toList),.int .i64 ((((r3.1.headD .undef).pv.cap 0).rcell 2).toInt),.int .i64 ((((r3.1.headD .undef).pv.cap 0).rcell 3).toInt),.int .i64 ((((r3.1.headD .undef).pv.cap 0).rcell 4).toInt),.int .i64 ((((r3.1.headD .undef).pv.cap 0).rcell 5).toInt)]])],[])
  else
   bif (s_0==(3:Int)) then
    (C 59 [.p (.agg [.int .i64 s_0,.list true kV3 s_1,.int .i64 s_2,.int .i64 s_3,.int .i64 s_4,.int .i64 s_5])] []).bind fun r4 =>
    some ([.p (.fn 93 [.ref [.int .i64 ((((r4.1.headD .undef).pv.cap 0).rcell 0).toInt),.list true kV3 ((((r4.1.headD .undef).pv.cap 0).rcell 1).toList),.int .i64 ((((r4.1.headD .undef).pv.cap 0).rcell 2).toInt),.int .i64 ((((r4.1.headD .undef).pv.cap 0).rcell 3).toInt),.int .i64 ((((r4.1.headD .undef).pv.cap 0).rcell 4).toInt),.int .i64 ((((r4.1.headD .undef).pv.cap 0).rcell 5).toInt)]])],[])
   else
    (C 60 [.p (.agg [.int .i64 s_0,.list true kV3 s_1,.int .i64 s_2,.int .i64 s_3,.int .i64 s_4,.int .i64 s_5])] []).bind fun r5 =>
    some ([.p (.fn 95 [.ref [.int .i64 ((((r5.1.headD .undef).pv.cap 0).rcell 0).toInt),.list true kV3 ((((r5.1.headD .undef).pv.cap 0).rcell 1).toList),.int .i64 ((((r5.1.headD .undef).pv.cap 0).rcell 2).toInt),.int .i64 ((((r5.1.headD .undef).pv.cap 0).rcell 3).toInt),.int .i64 ((((r5.1.headD .undef).pv.cap 0).rcell 4).toInt),.int .i64 ((((r5.1.headD .undef).pv.cap 0).rcell 5).toInt)]])],[]):=by kernel_rfl
theorem e31 (C:CallF) (v_0 v_1 v_2:Int):acallI tab C 31 [.p (.agg [.int .i64 v_0,.int .i64 v_1,.int .i64 v_2])] [] =
 (C 61 [.p (.int .i64 1048576),.p (.list false [.int .i64] [.int .i64 v_0,.int .i64 v_1,.int .i64 v_2])] []).bind fun r1 =>
 some ([.p (.bool ((r1.1.headD .undef).pv.toBool))],[]):=by kernel_rfl
theorem e33 (C:CallF) (mk mv:List PV):acallI tab C 33 [.p (.mapv mk mv)] [] =
 some ([.p (.fn 64 [.ref [.mapv mk mv]])],[]):=by kernel_rfl
theorem e34 (C:CallF) (a_0 a_1 a_2 b_0 b_1 b_2:Int):acallI tab C 34 [.p (.agg [.int .i64 a_0,.int .i64 a_1,.int .i64 a_2]),.p (.agg [.int .i64 b_0,.int .i64 b_1,.int .i64 b_2])] [] =
 (C 65 [.p (.agg [.int .i64 a_0,.int .i64 a_1,.int .i64 a_2])] []).bind fun r1 =>
 (C 65 [.p (.agg [.int .i64 b_0,.int .i64 b_1,.int .i64 b_2])] []).bind fun r2 =>
 (C 66 [.p (.list false [.int .i64] [.int .i64 (((r1.1.headD .undef).pv.cell 0).toInt),.int .i64 (((r1.1.headD .undef).pv.cell 1).toInt),.int .i64 (((r1.1.headD .undef).pv.cell 2).toInt)]),.p (.list false [.int .i64] [.int .i64 (((r2.1.headD .undef).pv.cell 0).toInt),.int .i64 (((r2.1.headD .undef).pv.cell 1).toInt),.int .i64 (((r2.1.headD .undef).pv.cell 2).toInt)])] []).bind fun r3 =>
 some ([.p (.int .i64 ((r3.1.headD .undef).pv.toInt))],[]):=by kernel_rfl
theorem e35 (C:CallF) (s_0:Int)(s_1:List PV)(s_2 s_3 s_4 s_5:Int):acallI tab C 35 [.p (.agg [.int .i64 s_0,.list true kV3 s_1,.int .i64 s_2,.int .i64 s_3,.int .i64 s_4,.int .i64 s_5])] [] =
 bif (gtI ((s_1.length:Nat):Int) (200:Int)) then
  some ([.p (.bool false)],[])
 else
  (C 37 [.p (.list true kV3 s_1)] []).bind fun r1 =>
  bif (!(r1.1.headD .undef).pv.toBool) then
   some ([.p (.bool false)],[])
  else
   (C 67 [.p (.int .i64 s_3),.p (.int .i64 1),.p (.int .i64 50)] []).bind fun r2 =>
   bif (r2.1.headD .undef).pv.toBool then
    (C 67 [.p (.int .i64 s_4),.p (.int .i64 1),.p (.int .i64 10000)] []).bind fun r3 =>
    bif (r3.1.headD .undef).pv.toBool then
     bif (s_2==(0:Int)) then
      bif (s_3==(0:Int)) then
       bif (s_4==(0:Int)) then
        bif (s_0==(1:Int)) then
         bif (geI ((s_1.length:Nat):Int) (1:Int)) then
          bif (s_5==(0:Int)) then
           some ([.p (.bool (s_2==(0:Int)))],[])
          else
           some ([.p (.bool false)],[])
         else
          some ([.p (.bool false)],[])
        else
         bif (s_0==(2:Int)) then
          bif (geI ((s_1.length:Nat):Int) (2:Int)) then
           bif (s_5==(0:Int)) then
            (C 67 [.p (.int .i64 s_2),.p (.int .i64 1),.p (.int .i64 500)] []).bind fun r4 =>
            some ([.p (.bool ((r4.1.headD .undef).pv.toBool))],[])
           else
            some ([.p (.bool false)],[])
          else
           some ([.p (.bool false)],[])
         else
          bif (s_0==(3:Int)) then
           bif (geI ((s_1.length:Nat):Int) (3:Int)) then
            bif (s_5==(0:Int)) then
             (C 67 [.p (.int .i64 s_2),.p (.int .i64 1),.p (.int .i64 500)] []).bind fun r5 =>
             some ([.p (.bool ((r5.1.headD .undef).pv.toBool))],[])
            else
             some ([.p (.bool false)],[])
           else
            some ([.p (.bool false)],[])
          else
           bif (s_0==(4:Int)) then
            bif (((s_1.length:Nat):Int)==(1:Int)) then
             (C 67 [.p (.int .i64 s_5),.p (.int .i64 0),.p (.int .i64 2)] []).bind fun r6 =>
             some ([.p (.bool ((r6.1.headD .undef).pv.toBool))],[])
            else
             some ([.p (.bool false)],[])
           else
            bif (s_0==(5:Int)) then
             bif (((s_1.length:Nat):Int)==(1:Int)) then
              some ([.p (.bool (s_5==(0:Int)))],[])
             else
              some ([.p (.bool false)],[])
            else
             some ([.p (.bool false)],[])
       else
        bif (s_0==(1:Int)) then
         bif (geI ((s_1.length:Nat):Int) (1:Int)) then
          some ([.p (.bool false)],[])
         else
          some ([.p (.bool false)],[])
        else
         bif (s_0==(2:Int)) then
          bif (geI ((s_1.length:Nat):Int) (2:Int)) then
           some ([.p (.bool false)],[])
          else
           some ([.p (.bool false)],[])
         else
          bif (s_0==(3:Int)) then
           bif (geI ((s_1.length:Nat):Int) (3:Int)) then
            some ([.p (.bool false)],[])
           else
            some ([.p (.bool false)],[])
          else
           bif (s_0==(4:Int)) then
            bif (((s_1.length:Nat):Int)==(1:Int)) then
             (C 67 [.p (.int .i64 s_5),.p (.int .i64 0),.p (.int .i64 2)] []).bind fun r7 =>
             some ([.p (.bool ((r7.1.headD .undef).pv.toBool))],[])
            else
             some ([.p (.bool false)],[])
           else
            bif (s_0==(5:Int)) then
             bif (((s_1.length:Nat):Int)==(1:Int)) then
              some ([.p (.bool (s_5==(0:Int)))],[])
             else
              some ([.p (.bool false)],[])
            else
             some ([.p (.bool false)],[])
      else
       bif (s_0==(1:Int)) then
        bif (geI ((s_1.length:Nat):Int) (1:Int)) then
         some ([.p (.bool false)],[])
        else
         some ([.p (.bool false)],[])
       else
        bif (s_0==(2:Int)) then
         bif (geI ((s_1.length:Nat):Int) (2:Int)) then
          some ([.p (.bool false)],[])
         else
          some ([.p (.bool false)],[])
        else
         bif (s_0==(3:Int)) then
          bif (geI ((s_1.length:Nat):Int) (3:Int)) then
           some ([.p (.bool false)],[])
          else
           some ([.p (.bool false)],[])
         else
          bif (s_0==(4:Int)) then
           bif (((s_1.length:Nat):Int)==(1:Int)) then
            (C 67 [.p (.int .i64 s_5),.p (.int .i64 0),.p (.int .i64 2)] []).bind fun r8 =>
            some ([.p (.bool ((r8.1.headD .undef).pv.toBool))],[])
           else
            some ([.p (.bool false)],[])
          else
           bif (s_0==(5:Int)) then
            bif (((s_1.length:Nat):Int)==(1:Int)) then
             some ([.p (.bool (s_5==(0:Int)))],[])
            else
             some ([.p (.bool false)],[])
           else
            some ([.p (.bool false)],[])
     else
      bif (s_3==(0:Int)) then
       bif (s_4==(0:Int)) then
        bif (s_0==(1:Int)) then
         bif (geI ((s_1.length:Nat):Int) (1:Int)) then
          bif (s_5==(0:Int)) then
           some ([.p (.bool (s_2==(0:Int)))],[])
          else
           some ([.p (.bool false)],[])
         else
          some ([.p (.bool false)],[])
        else
         bif (s_0==(2:Int)) then
          bif (geI ((s_1.length:Nat):Int) (2:Int)) then
           bif (s_5==(0:Int)) then
            (C 67 [.p (.int .i64 s_2),.p (.int .i64 1),.p (.int .i64 500)] []).bind fun r9 =>
            some ([.p (.bool ((r9.1.headD .undef).pv.toBool))],[])
           else
            some ([.p (.bool false)],[])
          else
           some ([.p (.bool false)],[])
         else
          bif (s_0==(3:Int)) then
           bif (geI ((s_1.length:Nat):Int) (3:Int)) then
            bif (s_5==(0:Int)) then
             (C 67 [.p (.int .i64 s_2),.p (.int .i64 1),.p (.int .i64 500)] []).bind fun r10 =>
             some ([.p (.bool ((r10.1.headD .undef).pv.toBool))],[])
            else
             some ([.p (.bool false)],[])
           else
            some ([.p (.bool false)],[])
          else
           bif (s_0==(4:Int)) then
            some ([.p (.bool false)],[])
           else
            bif (s_0==(5:Int)) then
             some ([.p (.bool false)],[])
            else
             some ([.p (.bool false)],[])
       else
        bif (s_0==(1:Int)) then
         bif (geI ((s_1.length:Nat):Int) (1:Int)) then
          some ([.p (.bool false)],[])
         else
          some ([.p (.bool false)],[])
        else
         bif (s_0==(2:Int)) then
          bif (geI ((s_1.length:Nat):Int) (2:Int)) then
           some ([.p (.bool false)],[])
          else
           some ([.p (.bool false)],[])
         else
          bif (s_0==(3:Int)) then
           bif (geI ((s_1.length:Nat):Int) (3:Int)) then
            some ([.p (.bool false)],[])
           else
            some ([.p (.bool false)],[])
          else
           bif (s_0==(4:Int)) then
            some ([.p (.bool false)],[])
           else
            bif (s_0==(5:Int)) then
             some ([.p (.bool false)],[])
            else
             some ([.p (.bool false)],[])
      else
       bif (s_0==(1:Int)) then
        bif (geI ((s_1.length:Nat):Int) (1:Int)) then
         some ([.p (.bool false)],[])
        else
         some ([.p (.bool false)],[])
       else
        bif (s_0==(2:Int)) then
         bif (geI ((s_1.length:Nat):Int) (2:Int)) then
          some ([.p (.bool false)],[])
         else
          some ([.p (.bool false)],[])
        else
         bif (s_0==(3:Int)) then
          bif (geI ((s_1.length:Nat):Int) (3:Int)) then
           some ([.p (.bool false)],[])
          else
           some ([.p (.bool false)],[])
         else
          bif (s_0==(4:Int)) then
           some ([.p (.bool false)],[])
          else
           bif (s_0==(5:Int)) then
            some ([.p (.bool false)],[])
           else
            some ([.p (.bool false)],[])
    else
     bif (s_3==(0:Int)) then
      bif (s_4==(0:Int)) then
       bif (s_0==(1:Int)) then
        bif (geI ((s_1.length:Nat):Int) (1:Int)) then
         bif (s_5==(0:Int)) then
          some ([.p (.bool (s_2==(0:Int)))],[])
         else
          some ([.p (.bool false)],[])
        else
         some ([.p (.bool false)],[])
       else
        bif (s_0==(2:Int)) then
         bif (geI ((s_1.length:Nat):Int) (2:Int)) then
          bif (s_5==(0:Int)) then
           (C 67 [.p (.int .i64 s_2),.p (.int .i64 1),.p (.int .i64 500)] []).bind fun r11 =>
           some ([.p (.bool ((r11.1.headD .undef).pv.toBool))],[])
          else
           some ([.p (.bool false)],[])
         else
          some ([.p (.bool false)],[])
        else
         bif (s_0==(3:Int)) then
          bif (geI ((s_1.length:Nat):Int) (3:Int)) then
           bif (s_5==(0:Int)) then
            (C 67 [.p (.int .i64 s_2),.p (.int .i64 1),.p (.int .i64 500)] []).bind fun r12 =>
            some ([.p (.bool ((r12.1.headD .undef).pv.toBool))],[])
           else
            some ([.p (.bool false)],[])
          else
           some ([.p (.bool false)],[])
         else
          bif (s_0==(4:Int)) then
           some ([.p (.bool false)],[])
          else
           bif (s_0==(5:Int)) then
            some ([.p (.bool false)],[])
           else
            some ([.p (.bool false)],[])
      else
       bif (s_0==(1:Int)) then
        bif (geI ((s_1.length:Nat):Int) (1:Int)) then
         some ([.p (.bool false)],[])
        else
         some ([.p (.bool false)],[])
       else
        bif (s_0==(2:Int)) then
         bif (geI ((s_1.length:Nat):Int) (2:Int)) then
          some ([.p (.bool false)],[])
         else
          some ([.p (.bool false)],[])
        else
         bif (s_0==(3:Int)) then
          bif (geI ((s_1.length:Nat):Int) (3:Int)) then
           some ([.p (.bool false)],[])
          else
           some ([.p (.bool false)],[])
         else
          bif (s_0==(4:Int)) then
           some ([.p (.bool false)],[])
          else
           bif (s_0==(5:Int)) then
            some ([.p (.bool false)],[])
           else
            some ([.p (.bool false)],[])
     else
      bif (s_0==(1:Int)) then
       bif (geI ((s_1.length:Nat):Int) (1:Int)) then
        some ([.p (.bool false)],[])
       else
        some ([.p (.bool false)],[])
      else
       bif (s_0==(2:Int)) then
        bif (geI ((s_1.length:Nat):Int) (2:Int)) then
         some ([.p (.bool false)],[])
        else
         some ([.p (.bool false)],[])
       else
        bif (s_0==(3:Int)) then
         bif (geI ((s_1.length:Nat):Int) (3:Int)) then
          some ([.p (.bool false)],[])
         else
          some ([.p (.bool false)],[])
        else
         bif (s_0==(4:Int)) then
          some ([.p (.bool false)],[])
         else
          bif (s_0==(5:Int)) then
           some ([.p (.bool false)],[])
          else
           some ([.p (.bool false)],[])
   else
    bif (s_3==(0:Int)) then
     bif (s_4==(0:Int)) then
      bif (s_0==(1:Int)) then
       bif (geI ((s_1.length:Nat):Int) (1:Int)) then
        bif (s_5==(0:Int)) then
         some ([.p (.bool (s_2==(0:Int)))],[])
        else
         some ([.p (.bool false)],[])
       else
        some ([.p (.bool false)],[])
      else
       bif (s_0==(2:Int)) then
        bif (geI ((s_1.length:Nat):Int) (2:Int)) then
         bif (s_5==(0:Int)) then
          (C 67 [.p (.int .i64 s_2),.p (.int .i64 1),.p (.int .i64 500)] []).bind fun r13 =>
          some ([.p (.bool ((r13.1.headD .undef).pv.toBool))],[])
         else
          some ([.p (.bool false)],[])
        else
         some ([.p (.bool false)],[])
       else
        bif (s_0==(3:Int)) then
         bif (geI ((s_1.length:Nat):Int) (3:Int)) then
          bif (s_5==(0:Int)) then
           (C 67 [.p (.int .i64 s_2),.p (.int .i64 1),.p (.int .i64 500)] []).bind fun r14 =>
           some ([.p (.bool ((r14.1.headD .undef).pv.toBool))],[])
          else
           some ([.p (.bool false)],[])
         else
          some ([.p (.bool false)],[])
        else
         bif (s_0==(4:Int)) then
          some ([.p (.bool false)],[])
         else
          bif (s_0==(5:Int)) then
           some ([.p (.bool false)],[])
          else
           some ([.p (.bool false)],[])
     else
      bif (s_0==(1:Int)) then
       bif (geI ((s_1.length:Nat):Int) (1:Int)) then
        some ([.p (.bool false)],[])
       else
        some ([.p (.bool false)],[])
      else
       bif (s_0==(2:Int)) then
        bif (geI ((s_1.length:Nat):Int) (2:Int)) then
         some ([.p (.bool false)],[])
        else
         some ([.p (.bool false)],[])
       else
        bif (s_0==(3:Int)) then
         bif (geI ((s_1.length:Nat):Int) (3:Int)) then
          some ([.p (.bool false)],[])
         else
          some ([.p (.bool false)],[])
        else
         bif (s_0==(4:Int)) then
          some ([.p (.bool false)],[])
         else
          bif (s_0==(5:Int)) then
           some ([.p (.bool false)],[])
          else
           some ([.p (.bool false)],[])
    else
     bif (s_0==(1:Int)) then
      bif (geI ((s_1.length:Nat):Int) (1:Int)) then
       some ([.p (.bool false)],[])
      else
       some ([.p (.bool false)],[])
     else
      bif (s_0==(2:Int)) then
       bif (geI ((s_1.length:Nat):Int) (2:Int)) then
        some ([.p (.bool false)],[])
       else
        some ([.p (.bool false)],[])
      else
       bif (s_0==(3:Int)) then
        bif (geI ((s_1.length:Nat):Int) (3:Int)) then
         some ([.p (.bool false)],[])
        else
         some ([.p (.bool false)],[])
       else
        bif (s_0==(4:Int)) then
         some ([.p (.bool false)],[])
        else
         bif (s_0==(5:Int)) then
          some ([.p (.bool false)],[])
         else
          some ([.p (.bool false)],[]):=by kernel_rfl
def S37_1010 (l':List PV)(i':Int):St:=⟨(.p (.list true kV3 l'))::.undef::.undef::(.p (.int .i64 i'))::List.replicate 12 .undef,[]⟩
theorem e37 (C:CallF) (l:List PV):acallI tab C 37 [.p (.list true kV3 l)] [] =
 L tab C 37 [] [.lp [1,0,1,0]] (S37_1010 l 0):=by kernel_rfl
theorem e37_1010 (C:CallF) (l':List PV)(i':Int):R tab C 37 [] [.lp [1,0,1,0]] (S37_1010 l' i') =
 bif (ltI i' ((l'.length:Nat):Int)) then
  bif ((leI (0:Int) i')&&(ltI i' ((l'.length:Nat):Int))) then(C 70 [.p (.agg [.int .i64 (((l'.getD i'.toNat .nil).cell 0).toInt),.int .i64 (((l'.getD i'.toNat .nil).cell 1).toInt),.int .i64 (((l'.getD i'.toNat .nil).cell 2).toInt)])] []).bind fun r1 =>
  bif (!(r1.1.headD .undef).pv.toBool) then
   some ([.p (.bool false)],[])
  else
   L tab C 37 [] [.lp [1,0,1,0]] (S37_1010 l' (IntKind.i64.wrap (i'+(1:Int)))) else none
 else
  some ([.p (.bool true)],[]):=by kernel_rfl
end Go.Skm.Fig
