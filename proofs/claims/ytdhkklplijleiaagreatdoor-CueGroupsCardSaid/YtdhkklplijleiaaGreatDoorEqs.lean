/-
  What the machine does in each function of this program, and in each round of each loop; no condition.
-/
import Derived.Test.YtdhkklplijleiaaGreatDoorSkmD
import Derived.Test.YtdhkklplijleiaaGreatDoorTab
import Derived.KernelRfl
set_option maxRecDepth 100000
namespace Go.Skm.Cue
open Go Go.Skm
theorem e3 (C : CallF) (s : ByteArray) : acallI tab C 3 [.p (.str s)] [] =
  bif (gtI ((s.size : Nat) : Int) (200 : Int)) then
    (C 10 [] []).bind fun r1 =>
    some ([.p (.bool ((r1.1.headD .undef).pv.toBool))], [])
  else
    (C 11 [.p (.str s)] []).bind fun r2 =>
    (C 12 [.p (.str s)] []).bind fun r3 =>
    bif ((((r2.1.headD .undef).pv.cell 0).toInt == ((r3.1.headD .undef).pv.cell 0).toInt) && ((((r2.1.headD .undef).pv.cell 1).toInt == ((r3.1.headD .undef).pv.cell 1).toInt) && ((((r2.1.headD .undef).pv.cell 2).toStr == ((r3.1.headD .undef).pv.cell 2).toStr) && (((((r2.1.headD .undef).pv.cell 3).toInt == ((r3.1.headD .undef).pv.cell 3).toInt) && ((((r2.1.headD .undef).pv.cell 4).toInt == ((r3.1.headD .undef).pv.cell 4).toInt) && ((((r2.1.headD .undef).pv.cell 5).toInt == ((r3.1.headD .undef).pv.cell 5).toInt) && true))) && true)))) then
      bif ((r2.1.tail.headD .undef).pv.toInt == (r3.1.tail.headD .undef).pv.toInt) then
        (C 10 [] []).bind fun r4 =>
        some ([.p (.bool ((r4.1.headD .undef).pv.toBool))], [])
      else
        some ([.p (.bool false)], [])
    else
      some ([.p (.bool false)], []) := by kernel_rfl
def S4_11010 (l' : List PV) (time' : Int) (by_' : Int) (i' : Int) (c_b0 : Int) (c_b1 : Int) (c_b2 : ByteArray) (c_b3 : Int) (c_b4 : Int) (c_b5 : Int) : St := ⟨(.p (.list true [.int .i64, .int .i64, .str, .int .u8, .int .u8, .int .u8] l')) :: .undef :: (.p (.int .i64 time')) :: (.p (.int .i64 by_')) :: .undef :: (.ptr 5 0 0) :: .undef :: .undef :: .undef :: (.p (.int .i64 i')) :: List.replicate 256 .undef, [(5, .box [.p (.int .i64 c_b0), .p (.int .i64 c_b1), .p (.str c_b2), .p (.int .u8 c_b3), .p (.int .u8 c_b4), .p (.int .u8 c_b5)])]⟩
theorem e4 (C : CallF) (l : List PV) (c_0 : Int) (c_1 : Int) (c_2 : ByteArray) (c_3 : Int) (c_4 : Int) (c_5 : Int) (time : Int) (by_ : Int) : acallI tab C 4 [.p (.list true [.int .i64, .int .i64, .str, .int .u8, .int .u8, .int .u8] l), .p (.agg [.int .i64 c_0, .int .i64 c_1, .str c_2, .int .u8 c_3, .int .u8 c_4, .int .u8 c_5]), .p (.int .i64 time), .p (.int .i64 by_)] [] =
  (C 13 [.p (.list true [.int .i64, .int .i64, .str, .int .u8, .int .u8, .int .u8] l), .p (.int .i64 40)] []).bind fun r1 =>
  bif (!(r1.1.headD .undef).pv.toBool) then
    (C 10 [] []).bind fun r2 =>
    some ([.p (.bool ((r2.1.headD .undef).pv.toBool))], [])
  else
    bif (gtI ((c_2.size : Nat) : Int) (100 : Int)) then
      (C 10 [] []).bind fun r3 =>
      some ([.p (.bool ((r3.1.headD .undef).pv.toBool))], [])
    else
      (C 14 [.p (.list true [.int .i64, .int .i64, .str, .int .u8, .int .u8, .int .u8] l)] []).bind fun r4 =>
      bif (!(r4.1.headD .undef).pv.toBool) then
        (C 10 [] []).bind fun r5 =>
        some ([.p (.bool ((r5.1.headD .undef).pv.toBool))], [])
      else
        (C 15 [.p (.agg [.int .i64 c_0, .int .i64 c_1, .str c_2, .int .u8 c_3, .int .u8 c_4, .int .u8 c_5])] []).bind fun r6 =>
        bif (!(r6.1.headD .undef).pv.toBool) then
          (C 10 [] []).bind fun r7 =>
          some ([.p (.bool ((r7.1.headD .undef).pv.toBool))], [])
        else
          bif (ltI time (0 : Int)) then
            (C 10 [] []).bind fun r8 =>
            some ([.p (.bool ((r8.1.headD .undef).pv.toBool))], [])
          else
            bif (gtI time (3600000 : Int)) then
              (C 10 [] []).bind fun r9 =>
              some ([.p (.bool ((r9.1.headD .undef).pv.toBool))], [])
            else
              L tab C 4 [] [.lp [1, 1, 0, 1, 0]] (S4_11010 l time by_ 0 c_0 c_1 c_2 c_3 c_4 c_5) := by kernel_rfl
theorem e5 (C : CallF) (l : List PV) (c_0 : Int) (c_1 : Int) (c_2 : ByteArray) (c_3 : Int) (c_4 : Int) (c_5 : Int) : acallI tab C 5 [.p (.list true [.int .i64, .int .i64, .str, .int .u8, .int .u8, .int .u8] l), .p (.agg [.int .i64 c_0, .int .i64 c_1, .str c_2, .int .u8 c_3, .int .u8 c_4, .int .u8 c_5])] [] =
  (C 13 [.p (.list true [.int .i64, .int .i64, .str, .int .u8, .int .u8, .int .u8] l), .p (.int .i64 1010)] []).bind fun r1 =>
  bif (!(r1.1.headD .undef).pv.toBool) then
    (C 10 [] []).bind fun r2 =>
    some ([.p (.bool ((r2.1.headD .undef).pv.toBool))], [])
  else
    bif (gtI ((c_2.size : Nat) : Int) (100 : Int)) then
      (C 10 [] []).bind fun r3 =>
      some ([.p (.bool ((r3.1.headD .undef).pv.toBool))], [])
    else
      bif (leN l.length 2147483648) then (C 17 [.p (.list true [.int .i64, .int .i64, .str, .int .u8, .int .u8, .int .u8] ((l.drop 0).take l.length)), .p (.agg [.int .i64 c_0, .int .i64 c_1, .str c_2, .int .u8 c_3, .int .u8 c_4, .int .u8 c_5])] []).bind fun r4 =>
      (C 21 [.p (.list true [.int .i64, .int .i64, .str, .int .u8, .int .u8, .int .u8] l), .p (.agg [.int .i64 c_0, .int .i64 c_1, .str c_2, .int .u8 c_3, .int .u8 c_4, .int .u8 c_5])] []).bind fun r5 =>
      (C 22 [.p (.list true [.int .i64, .int .i64, .str, .int .u8, .int .u8, .int .u8] l)] []).bind fun r6 =>
      (C 14 [.p (.list true [.int .i64, .int .i64, .str, .int .u8, .int .u8, .int .u8] l)] []).bind fun r7 =>
      bif ((r6.1.headD .undef).pv.toBool == (r7.1.headD .undef).pv.toBool) then
        (C 19 [.p (.list true [.int .i64, .int .i64, .str, .int .u8, .int .u8, .int .u8] ((((r4.1.headD .undef).freshList).drop 0).take ((r4.1.headD .undef).freshList.length))), .p (.list true [.int .i64, .int .i64, .str, .int .u8, .int .u8, .int .u8] ((((r5.1.headD .undef).freshList).drop 0).take ((r5.1.headD .undef).freshList.length)))] []).bind fun r8 =>
        bif (r8.1.headD .undef).pv.toBool then
          bif ((r4.1.tail.headD .undef).pv.toInt == (r5.1.tail.headD .undef).pv.toInt) then
            (C 23 [.slice 100000 6 0 l.length, .p (.list true [.int .i64, .int .i64, .str, .int .u8, .int .u8, .int .u8] l), .slice 100001 6 0 ((r4.1.headD .undef).freshList.length)] [.arr true [.int .i64, .int .i64, .str, .int .u8, .int .u8, .int .u8] l, .arr true [.int .i64, .int .i64, .str, .int .u8, .int .u8, .int .u8] ((r4.1.headD .undef).freshList)]).bind fun r9 =>
            bif (r9.1.headD .undef).pv.toBool then
              (C 10 [] []).bind fun r10 =>
              some ([.p (.bool ((r10.1.headD .undef).pv.toBool))], [])
            else
              some ([.p (.bool false)], [])
          else
            some ([.p (.bool false)], [])
        else
          some ([.p (.bool false)], [])
      else
        some ([.p (.bool false)], []) else none := by kernel_rfl
theorem e6 (C : CallF) (l : List PV) (group : ByteArray) (time : Int) : acallI tab C 6 [.p (.list true [.int .i64, .int .i64, .str, .int .u8, .int .u8, .int .u8] l), .p (.str group), .p (.int .i64 time)] [] =
  (C 13 [.p (.list true [.int .i64, .int .i64, .str, .int .u8, .int .u8, .int .u8] l), .p (.int .i64 40)] []).bind fun r1 =>
  bif (!(r1.1.headD .undef).pv.toBool) then
    (C 10 [] []).bind fun r2 =>
    some ([.p (.bool ((r2.1.headD .undef).pv.toBool))], [])
  else
    bif (gtI ((group.size : Nat) : Int) (100 : Int)) then
      (C 10 [] []).bind fun r3 =>
      some ([.p (.bool ((r3.1.headD .undef).pv.toBool))], [])
    else
      (C 16 [.p (.list true [.int .i64, .int .i64, .str, .int .u8, .int .u8, .int .u8] l), .p (.str group), .p (.int .i64 time)] []).bind fun r4 =>
      (C 24 [.p (.list true [.int .i64, .int .i64, .str, .int .u8, .int .u8, .int .u8] l), .p (.str group), .p (.int .i64 time)] []).bind fun r5 =>
      bif ((((r4.1.headD .undef).pv.cell 0).toInt == ((r5.1.headD .undef).pv.cell 0).toInt) && ((((r4.1.headD .undef).pv.cell 1).toInt == ((r5.1.headD .undef).pv.cell 1).toInt) && ((((r4.1.headD .undef).pv.cell 2).toInt == ((r5.1.headD .undef).pv.cell 2).toInt) && true))) then
        bif ((r4.1.tail.headD .undef).pv.toInt == (r5.1.tail.headD .undef).pv.toInt) then
          (C 10 [] []).bind fun r6 =>
          some ([.p (.bool ((r6.1.headD .undef).pv.toBool))], [])
        else
          some ([.p (.bool false)], [])
      else
        some ([.p (.bool false)], []) := by kernel_rfl
theorem e7 (C : CallF) (l : List PV) (group : ByteArray) : acallI tab C 7 [.p (.list true [.int .i64, .int .i64, .str, .int .u8, .int .u8, .int .u8] l), .p (.str group)] [] =
  (C 13 [.p (.list true [.int .i64, .int .i64, .str, .int .u8, .int .u8, .int .u8] l), .p (.int .i64 40)] []).bind fun r1 =>
  bif (!(r1.1.headD .undef).pv.toBool) then
    (C 10 [] []).bind fun r2 =>
    some ([.p (.bool ((r2.1.headD .undef).pv.toBool))], [])
  else
    bif (gtI ((group.size : Nat) : Int) (100 : Int)) then
      (C 10 [] []).bind fun r3 =>
      some ([.p (.bool ((r3.1.headD .undef).pv.toBool))], [])
    else
      bif (leN l.length 2147483648) then (C 25 [.p (.list true [.int .i64, .int .i64, .str, .int .u8, .int .u8, .int .u8] ((l.drop 0).take l.length))] []).bind fun r4 =>
      (C 26 [.p (.list true [.int .i64, .int .i64, .str, .int .u8, .int .u8, .int .u8] l)] []).bind fun r5 =>
      (C 27 [.p (.list true [.int .i64, .int .i64, .str, .int .u8, .int .u8, .int .u8] ((l.drop 0).take l.length)), .p (.str group)] []).bind fun r6 =>
      (C 28 [.p (.list true [.int .i64, .int .i64, .str, .int .u8, .int .u8, .int .u8] l), .p (.str group)] []).bind fun r7 =>
      (C 29 [.p (.list false [.str] ((((r4.1.headD .undef).freshList).drop 0).take ((r4.1.headD .undef).freshList.length))), .p (.list false [.str] ((((r5.1.headD .undef).freshList).drop 0).take ((r5.1.headD .undef).freshList.length)))] []).bind fun r8 =>
      bif (r8.1.headD .undef).pv.toBool then
        bif ((r4.1.tail.headD .undef).pv.toInt == (r5.1.tail.headD .undef).pv.toInt) then
          (C 19 [.p (.list true [.int .i64, .int .i64, .str, .int .u8, .int .u8, .int .u8] ((((r6.1.headD .undef).freshList).drop 0).take ((r6.1.headD .undef).freshList.length))), .p (.list true [.int .i64, .int .i64, .str, .int .u8, .int .u8, .int .u8] ((((r7.1.headD .undef).freshList).drop 0).take ((r7.1.headD .undef).freshList.length)))] []).bind fun r9 =>
          bif (r9.1.headD .undef).pv.toBool then
            bif ((r6.1.tail.headD .undef).pv.toInt == (r7.1.tail.headD .undef).pv.toInt) then
              (C 23 [.slice 100000 6 0 l.length, .p (.list true [.int .i64, .int .i64, .str, .int .u8, .int .u8, .int .u8] l), .slice 100001 6 0 ((r6.1.headD .undef).freshList.length)] [.arr true [.int .i64, .int .i64, .str, .int .u8, .int .u8, .int .u8] l, .arr true [.int .i64, .int .i64, .str, .int .u8, .int .u8, .int .u8] ((r6.1.headD .undef).freshList)]).bind fun r10 =>
              bif (r10.1.headD .undef).pv.toBool then
                (C 10 [] []).bind fun r11 =>
                some ([.p (.bool ((r11.1.headD .undef).pv.toBool))], [])
              else
                some ([.p (.bool false)], [])
            else
              some ([.p (.bool false)], [])
          else
            some ([.p (.bool false)], [])
        else
          some ([.p (.bool false)], [])
      else
        some ([.p (.bool false)], []) else none := by kernel_rfl
theorem e8 (C : CallF) (l : List PV) (by_ : Int) (tempos : List PV) (step : Int) : acallI tab C 8 [.p (.list true [.int .i64, .int .i64, .str, .int .u8, .int .u8, .int .u8] l), .p (.int .i64 by_), .p (.list true [.int .i64, .int .i64] tempos), .p (.int .i64 step)] [] =
  (C 13 [.p (.list true [.int .i64, .int .i64, .str, .int .u8, .int .u8, .int .u8] l), .p (.int .i64 40)] []).bind fun r1 =>
  bif (!(r1.1.headD .undef).pv.toBool) then
    (C 10 [] []).bind fun r2 =>
    some ([.p (.bool ((r2.1.headD .undef).pv.toBool))], [])
  else
    bif (gtI ((tempos.length : Nat) : Int) (20 : Int)) then
      (C 10 [] []).bind fun r3 =>
      some ([.p (.bool ((r3.1.headD .undef).pv.toBool))], [])
    else
      bif (leN l.length 2147483648) then (C 20 [.p (.list true [.int .i64, .int .i64, .str, .int .u8, .int .u8, .int .u8] ((l.drop 0).take l.length)), .p (.int .i64 by_)] []).bind fun r4 =>
      (C 30 [.p (.list true [.int .i64, .int .i64, .str, .int .u8, .int .u8, .int .u8] l), .p (.int .i64 by_)] []).bind fun r5 =>
      (C 31 [.p (.list true [.int .i64, .int .i64, .str, .int .u8, .int .u8, .int .u8] ((l.drop 0).take l.length)), .p (.list true [.int .i64, .int .i64] tempos), .p (.int .i64 step)] []).bind fun r6 =>
      (C 32 [.p (.list true [.int .i64, .int .i64, .str, .int .u8, .int .u8, .int .u8] l), .p (.list true [.int .i64, .int .i64] tempos), .p (.int .i64 step)] []).bind fun r7 =>
      (C 19 [.p (.list true [.int .i64, .int .i64, .str, .int .u8, .int .u8, .int .u8] ((((r4.1.headD .undef).freshList).drop 0).take ((r4.1.headD .undef).freshList.length))), .p (.list true [.int .i64, .int .i64, .str, .int .u8, .int .u8, .int .u8] ((((r5.1.headD .undef).freshList).drop 0).take ((r5.1.headD .undef).freshList.length)))] []).bind fun r8 =>
      bif (r8.1.headD .undef).pv.toBool then
        bif ((r4.1.tail.headD .undef).pv.toInt == (r5.1.tail.headD .undef).pv.toInt) then
          (C 19 [.p (.list true [.int .i64, .int .i64, .str, .int .u8, .int .u8, .int .u8] ((((r6.1.headD .undef).freshList).drop 0).take ((r6.1.headD .undef).freshList.length))), .p (.list true [.int .i64, .int .i64, .str, .int .u8, .int .u8, .int .u8] ((((r7.1.headD .undef).freshList).drop 0).take ((r7.1.headD .undef).freshList.length)))] []).bind fun r9 =>
          bif (r9.1.headD .undef).pv.toBool then
            bif ((r6.1.tail.headD .undef).pv.toInt == (r7.1.tail.headD .undef).pv.toInt) then
              (C 23 [.slice 100000 6 0 l.length, .p (.list true [.int .i64, .int .i64, .str, .int .u8, .int .u8, .int .u8] l), .slice 100001 6 0 ((r4.1.headD .undef).freshList.length)] [.arr true [.int .i64, .int .i64, .str, .int .u8, .int .u8, .int .u8] l, .arr true [.int .i64, .int .i64, .str, .int .u8, .int .u8, .int .u8] ((r4.1.headD .undef).freshList)]).bind fun r10 =>
              bif (r10.1.headD .undef).pv.toBool then
                (C 23 [.slice 100000 6 0 l.length, .p (.list true [.int .i64, .int .i64, .str, .int .u8, .int .u8, .int .u8] l), .slice 100001 6 0 ((r6.1.headD .undef).freshList.length)] [.arr true [.int .i64, .int .i64, .str, .int .u8, .int .u8, .int .u8] ((r10.2.headD (.box [])).xs), .arr true [.int .i64, .int .i64, .str, .int .u8, .int .u8, .int .u8] ((r6.1.headD .undef).freshList)]).bind fun r11 =>
                bif (r11.1.headD .undef).pv.toBool then
                  (C 10 [] []).bind fun r12 =>
                  some ([.p (.bool ((r12.1.headD .undef).pv.toBool))], [])
                else
                  some ([.p (.bool false)], [])
              else
                some ([.p (.bool false)], [])
            else
              some ([.p (.bool false)], [])
          else
            some ([.p (.bool false)], [])
        else
          some ([.p (.bool false)], [])
      else
        some ([.p (.bool false)], []) else none := by kernel_rfl
theorem e10 (C : CallF)  : acallI tab C 10 [] [] =
  (C 35 [] []).bind fun r1 =>
  (C 36 [.p (.str ⟨#[97]⟩), .p (.int .i64 999), .p (.agg [.int .u8 0, .int .u8 0, .int .u8 0])] []).bind fun r2 =>
  bif (!(r2.1.headD .undef).pv.toBool) then
    some ([.p (.bool false)], [])
  else
    (C 36 [.p (.str ⟨#[97]⟩), .p (.int .i64 1000), .p (.agg [.int .u8 255, .int .u8 0, .int .u8 0])] []).bind fun r3 =>
    bif (!(r3.1.headD .undef).pv.toBool) then
      some ([.p (.bool false)], [])
    else
      (C 36 [.p (.str ⟨#[97]⟩), .p (.int .i64 2000), .p (.agg [.int .u8 255, .int .u8 0, .int .u8 0])] []).bind fun r4 =>
      bif (!(r4.1.headD .undef).pv.toBool) then
        some ([.p (.bool false)], [])
      else
        (C 36 [.p (.str ⟨#[97]⟩), .p (.int .i64 3000), .p (.agg [.int .u8 0, .int .u8 0, .int .u8 255])] []).bind fun r5 =>
        bif (!(r5.1.headD .undef).pv.toBool) then
          some ([.p (.bool false)], [])
        else
          (C 36 [.p (.str ⟨#[98]⟩), .p (.int .i64 5000), .p (.agg [.int .u8 0, .int .u8 0, .int .u8 0])] []).bind fun r6 =>
          bif (!(r6.1.headD .undef).pv.toBool) then
            some ([.p (.bool false)], [])
          else
            bif (ltI (1 : Int) (((r1.1.headD .undef).freshList.length : Nat) : Int)) then (C 17 [.p (.list true [.int .i64, .int .i64, .str, .int .u8, .int .u8, .int .u8] ((((r1.1.headD .undef).freshList).drop 0).take ((r1.1.headD .undef).freshList.length))), .p (.agg [.int .i64 (((((r1.1.headD .undef).freshList).getD 1 .nil).cell 0).toInt), .int .i64 (((((r1.1.headD .undef).freshList).getD 1 .nil).cell 1).toInt), .str (((((r1.1.headD .undef).freshList).getD 1 .nil).cell 2).toStr), .int .u8 (((((r1.1.headD .undef).freshList).getD 1 .nil).cell 3).toInt), .int .u8 (((((r1.1.headD .undef).freshList).getD 1 .nil).cell 4).toInt), .int .u8 (((((r1.1.headD .undef).freshList).getD 1 .nil).cell 5).toInt)])] []).bind fun r7 =>
            (C 17 [.p (.list true [.int .i64, .int .i64, .str, .int .u8, .int .u8, .int .u8] ((((r1.1.headD .undef).freshList).drop 0).take ((r1.1.headD .undef).freshList.length))), .p (.agg [.int .i64 1500, .int .i64 0, .str ⟨#[98]⟩, .int .u8 0, .int .u8 0, .int .u8 0])] []).bind fun r8 =>
            (C 18 [.p (.list true [.int .i64, .int .i64, .str, .int .u8, .int .u8, .int .u8] ((((r1.1.headD .undef).freshList).drop 0).take ((r1.1.headD .undef).freshList.length))), .p (.int .i64 1500), .p (.str ⟨#[97]⟩)] []).bind fun r9 =>
            bif ((r7.1.tail.headD .undef).pv.toInt != (11 : Int)) then
              some ([.p (.bool false)], [])
            else
              bif ((r8.1.tail.headD .undef).pv.toInt != (0 : Int)) then
                some ([.p (.bool false)], [])
              else
                bif ((r9.1.tail.headD .undef).pv.toInt != (9 : Int)) then
                  some ([.p (.bool false)], [])
                else
                  bif (ltI (0 : Int) (((r1.1.headD .undef).freshList.length : Nat) : Int)) then bif (ltI (1 : Int) (((r1.1.headD .undef).freshList.length : Nat) : Int)) then (C 19 [.p (.list true [.int .i64, .int .i64, .str, .int .u8, .int .u8, .int .u8] ((((r8.1.headD .undef).freshList).drop 0).take ((r8.1.headD .undef).freshList.length))), .p (.list true [.int .i64, .int .i64, .str, .int .u8, .int .u8, .int .u8] [.agg [.int .i64 (((((r1.1.headD .undef).freshList).getD 0 .nil).cell 0).toInt), .int .i64 (((((r1.1.headD .undef).freshList).getD 0 .nil).cell 1).toInt), .str (((((r1.1.headD .undef).freshList).getD 0 .nil).cell 2).toStr), .int .u8 (((((r1.1.headD .undef).freshList).getD 0 .nil).cell 3).toInt), .int .u8 (((((r1.1.headD .undef).freshList).getD 0 .nil).cell 4).toInt), .int .u8 (((((r1.1.headD .undef).freshList).getD 0 .nil).cell 5).toInt)], .agg [.int .i64 1500, .int .i64 0, .str ⟨#[98]⟩, .int .u8 0, .int .u8 0, .int .u8 0], .agg [.int .i64 (((((r1.1.headD .undef).freshList).getD 1 .nil).cell 0).toInt), .int .i64 (((((r1.1.headD .undef).freshList).getD 1 .nil).cell 1).toInt), .str (((((r1.1.headD .undef).freshList).getD 1 .nil).cell 2).toStr), .int .u8 (((((r1.1.headD .undef).freshList).getD 1 .nil).cell 3).toInt), .int .u8 (((((r1.1.headD .undef).freshList).getD 1 .nil).cell 4).toInt), .int .u8 (((((r1.1.headD .undef).freshList).getD 1 .nil).cell 5).toInt)]])] []).bind fun r10 =>
                  bif (!(r10.1.headD .undef).pv.toBool) then
                    some ([.p (.bool false)], [])
                  else
                    (C 25 [.p (.list true [.int .i64, .int .i64, .str, .int .u8, .int .u8, .int .u8] ((((r1.1.headD .undef).freshList).drop 0).take ((r1.1.headD .undef).freshList.length)))] []).bind fun r11 =>
                    (C 27 [.p (.list true [.int .i64, .int .i64, .str, .int .u8, .int .u8, .int .u8] ((((r1.1.headD .undef).freshList).drop 0).take ((r1.1.headD .undef).freshList.length))), .p (.str ⟨#[98]⟩)] []).bind fun r12 =>
                    (C 20 [.p (.list true [.int .i64, .int .i64, .str, .int .u8, .int .u8, .int .u8] ((((r1.1.headD .undef).freshList).drop 0).take ((r1.1.headD .undef).freshList.length))), .p (.int .i64 (-1001))] []).bind fun r13 =>
                    (C 20 [.p (.list true [.int .i64, .int .i64, .str, .int .u8, .int .u8, .int .u8] ((((r1.1.headD .undef).freshList).drop 0).take ((r1.1.headD .undef).freshList.length))), .p (.int .i64 (-1000))] []).bind fun r14 =>
                    bif ((r11.1.tail.headD .undef).pv.toInt != (0 : Int)) then
                      some ([.p (.bool false)], [])
                    else
                      bif ((r12.1.tail.headD .undef).pv.toInt != (0 : Int)) then
                        some ([.p (.bool false)], [])
                      else
                        bif ((r13.1.tail.headD .undef).pv.toInt != (3 : Int)) then
                          some ([.p (.bool false)], [])
                        else
                          bif ((r14.1.tail.headD .undef).pv.toInt != (0 : Int)) then
                            some ([.p (.bool false)], [])
                          else
                            (C 29 [.p (.list false [.str] ((((r11.1.headD .undef).freshList).drop 0).take ((r11.1.headD .undef).freshList.length))), .p (.list false [.str] [.str ⟨#[97]⟩])] []).bind fun r15 =>
                            bif (!(r15.1.headD .undef).pv.toBool) then
                              some ([.p (.bool false)], [])
                            else
                              bif ((((r12.1.headD .undef).freshList.length : Nat) : Int) != (0 : Int)) then
                                some ([.p (.bool false)], [])
                              else
                                bif ((((r14.1.headD .undef).freshList.length : Nat) : Int) != (2 : Int)) then
                                  some ([.p (.bool false)], [])
                                else
                                  bif (ltI (0 : Int) (((r14.1.headD .undef).freshList.length : Nat) : Int)) then bif (((((r14.1.headD .undef).freshList).getD 0 .nil).cell 0).toInt != (0 : Int)) then
                                    some ([.p (.bool false)], [])
                                  else
                                    bif (ltI (1 : Int) (((r14.1.headD .undef).freshList.length : Nat) : Int)) then bif (((((r14.1.headD .undef).freshList).getD 1 .nil).cell 0).toInt != (1000 : Int)) then
                                      some ([.p (.bool false)], [])
                                    else
                                      (C 31 [.p (.list true [.int .i64, .int .i64, .str, .int .u8, .int .u8, .int .u8] ((((r1.1.headD .undef).freshList).drop 0).take ((r1.1.headD .undef).freshList.length))), .p (.list true [.int .i64, .int .i64] [.agg [.int .i64 0, .int .i64 500000]]), .p (.int .i64 480)] []).bind fun r16 =>
                                      (C 31 [.p (.list true [.int .i64, .int .i64, .str, .int .u8, .int .u8, .int .u8] ((((r1.1.headD .undef).freshList).drop 0).take ((r1.1.headD .undef).freshList.length))), .p (.list true [.int .i64, .int .i64] [.agg [.int .i64 0, .int .i64 500000]]), .p (.int .i64 1920)] []).bind fun r17 =>
                                      (C 31 [.p (.list true [.int .i64, .int .i64, .str, .int .u8, .int .u8, .int .u8] ((((r1.1.headD .undef).freshList).drop 0).take ((r1.1.headD .undef).freshList.length))), .p (.list true [.int .i64, .int .i64] [.agg [.int .i64 0, .int .i64 500000]]), .p (.int .i64 3840)] []).bind fun r18 =>
                                      bif ((r16.1.tail.headD .undef).pv.toInt != (0 : Int)) then
                                        some ([.p (.bool false)], [])
                                      else
                                        bif ((r17.1.tail.headD .undef).pv.toInt != (0 : Int)) then
                                          some ([.p (.bool false)], [])
                                        else
                                          bif ((r18.1.tail.headD .undef).pv.toInt != (11 : Int)) then
                                            some ([.p (.bool false)], [])
                                          else
                                            (C 19 [.p (.list true [.int .i64, .int .i64, .str, .int .u8, .int .u8, .int .u8] ((((r16.1.headD .undef).freshList).drop 0).take ((r16.1.headD .undef).freshList.length))), .p (.list true [.int .i64, .int .i64, .str, .int .u8, .int .u8, .int .u8] ((((r1.1.headD .undef).freshList).drop 0).take ((r1.1.headD .undef).freshList.length)))] []).bind fun r19 =>
                                            bif (!(r19.1.headD .undef).pv.toBool) then
                                              some ([.p (.bool false)], [])
                                            else
                                              bif ((((r17.1.headD .undef).freshList.length : Nat) : Int) != (2 : Int)) then
                                                some ([.p (.bool false)], [])
                                              else
                                                bif (ltI (0 : Int) (((r17.1.headD .undef).freshList.length : Nat) : Int)) then bif (((((r17.1.headD .undef).freshList).getD 0 .nil).cell 0).toInt != (0 : Int)) then
                                                  some ([.p (.bool false)], [])
                                                else
                                                  bif (ltI (1 : Int) (((r17.1.headD .undef).freshList.length : Nat) : Int)) then bif (((((r17.1.headD .undef).freshList).getD 1 .nil).cell 0).toInt != (2000 : Int)) then
                                                    some ([.p (.bool false)], [])
                                                  else
                                                    bif (ltI (1 : Int) (((r1.1.headD .undef).freshList.length : Nat) : Int)) then (C 33 [.p (.agg [.int .i64 (((((r1.1.headD .undef).freshList).getD 1 .nil).cell 0).toInt), .int .i64 (((((r1.1.headD .undef).freshList).getD 1 .nil).cell 1).toInt), .str (((((r1.1.headD .undef).freshList).getD 1 .nil).cell 2).toStr), .int .u8 (((((r1.1.headD .undef).freshList).getD 1 .nil).cell 3).toInt), .int .u8 (((((r1.1.headD .undef).freshList).getD 1 .nil).cell 4).toInt), .int .u8 (((((r1.1.headD .undef).freshList).getD 1 .nil).cell 5).toInt)])] []).bind fun r20 =>
                                                    (C 11 [.p (.str ⟨#[99, 117, 101, 32, 48, 49, 32, 97, 32, 35, 102, 102, 48, 48, 48, 48, 32, 48]⟩)] []).bind fun r21 =>
                                                    bif ((r20.1.tail.headD .undef).pv.toInt == (0 : Int)) then
                                                      bif ((r21.1.tail.headD .undef).pv.toInt == (6 : Int)) then
                                                        some ([.p (.bool (((r20.1.headD .undef).pv.toStr).toList == (⟨#[99, 117, 101, 32, 50, 48, 48, 48, 32, 97, 32, 35, 48, 48, 48, 48, 102, 102, 32, 49, 48, 48, 48]⟩ : ByteArray).toList))], [])
                                                      else
                                                        some ([.p (.bool false)], [])
                                                    else
                                                      some ([.p (.bool false)], []) else none else none else none else none else none else none else none else none := by kernel_rfl
theorem e11 (C : CallF) (s : ByteArray) : acallI tab C 11 [.p (.str s)] [] =
  (C 37 [.p (.str s), .p (.str ⟨#[32]⟩)] []).bind fun r1 =>
  bif ((((r1.1.headD .undef).freshList.length : Nat) : Int) != (5 : Int)) then
    some ([.p (.agg [.int .i64 0, .int .i64 0, .str ⟨#[]⟩, .int .u8 0, .int .u8 0, .int .u8 0]), .p (.int .i64 6)], [])
  else
    bif (ltI (1 : Int) (((r1.1.headD .undef).freshList.length : Nat) : Int)) then (C 38 [.p (.str (((((r1.1.headD .undef).freshList).getD 1 .nil).cell 0).toStr))] []).bind fun r2 =>
    bif (ltI (4 : Int) (((r1.1.headD .undef).freshList.length : Nat) : Int)) then (C 38 [.p (.str (((((r1.1.headD .undef).freshList).getD 4 .nil).cell 0).toStr))] []).bind fun r3 =>
    bif (ltI (3 : Int) (((r1.1.headD .undef).freshList.length : Nat) : Int)) then (C 39 [.p (.str (((((r1.1.headD .undef).freshList).getD 3 .nil).cell 0).toStr))] []).bind fun r4 =>
    bif (ltI (2 : Int) (((r1.1.headD .undef).freshList.length : Nat) : Int)) then (C 33 [.p (.agg [.int .i64 ((r2.1.headD .undef).pv.toInt), .int .i64 ((r3.1.headD .undef).pv.toInt), .str (((((r1.1.headD .undef).freshList).getD 2 .nil).cell 0).toStr), .int .u8 (((r4.1.headD .undef).pv.cell 0).toInt), .int .u8 (((r4.1.headD .undef).pv.cell 1).toInt), .int .u8 (((r4.1.headD .undef).pv.cell 2).toInt)])] []).bind fun r5 =>
    bif (true && (r2.1.tail.headD .undef).pv.isI) then bif (!(r2.1.tail.headD .undef).pv.isNilI) then
      some ([.p (.agg [.int .i64 0, .int .i64 0, .str ⟨#[]⟩, .int .u8 0, .int .u8 0, .int .u8 0]), .p (.int .i64 6)], [])
    else
      bif (true && (r3.1.tail.headD .undef).pv.isI) then bif (!(r3.1.tail.headD .undef).pv.isNilI) then
        some ([.p (.agg [.int .i64 0, .int .i64 0, .str ⟨#[]⟩, .int .u8 0, .int .u8 0, .int .u8 0]), .p (.int .i64 6)], [])
      else
        bif ((r4.1.tail.headD .undef).pv.toInt != (0 : Int)) then
          some ([.p (.agg [.int .i64 0, .int .i64 0, .str ⟨#[]⟩, .int .u8 0, .int .u8 0, .int .u8 0]), .p (.int .i64 6)], [])
        else
          bif ((r5.1.tail.headD .undef).pv.toInt != (0 : Int)) then
            some ([.p (.agg [.int .i64 0, .int .i64 0, .str ⟨#[]⟩, .int .u8 0, .int .u8 0, .int .u8 0]), .p (.int .i64 6)], [])
          else
            bif (!(((r5.1.headD .undef).pv.toStr).toList == s.toList)) then
              some ([.p (.agg [.int .i64 0, .int .i64 0, .str ⟨#[]⟩, .int .u8 0, .int .u8 0, .int .u8 0]), .p (.int .i64 6)], [])
            else
              some ([.p (.agg [.int .i64 ((r2.1.headD .undef).pv.toInt), .int .i64 ((r3.1.headD .undef).pv.toInt), .str (((((r1.1.headD .undef).freshList).getD 2 .nil).cell 0).toStr), .int .u8 (((r4.1.headD .undef).pv.cell 0).toInt), .int .u8 (((r4.1.headD .undef).pv.cell 1).toInt), .int .u8 (((r4.1.headD .undef).pv.cell 2).toInt)]), .p (.int .i64 0)], []) else none else none else none else none else none else none := by kernel_rfl
def S13_11010 (l' : List PV) (i' : Int) : St := ⟨(.p (.list true [.int .i64, .int .i64, .str, .int .u8, .int .u8, .int .u8] l')) :: .undef :: .undef :: .undef :: .undef :: (.p (.int .i64 i')) :: List.replicate 17 .undef, []⟩
theorem e13 (C : CallF) (l : List PV) (most : Int) : acallI tab C 13 [.p (.list true [.int .i64, .int .i64, .str, .int .u8, .int .u8, .int .u8] l), .p (.int .i64 most)] [] =
  bif (gtI ((l.length : Nat) : Int) most) then
    some ([.p (.bool false)], [])
  else
    L tab C 13 [] [.lp [1, 1, 0, 1, 0]] (S13_11010 l 0) := by kernel_rfl
theorem e13_11010 (C : CallF) (l' : List PV) (i' : Int) : R tab C 13 [] [.lp [1, 1, 0, 1, 0]] (S13_11010 l' i') =
  bif (ltI i' ((l'.length : Nat) : Int)) then
    bif ((leI (0 : Int) i') && (ltI i' ((l'.length : Nat) : Int))) then bif (gtI (((((l'.getD i'.toNat .nil).cell 2).toStr).size : Nat) : Int) (100 : Int)) then
      some ([.p (.bool false)], [])
    else
      L tab C 13 [] [.lp [1, 1, 0, 1, 0]] (S13_11010 l' (IntKind.i64.wrap (i' + (1 : Int)))) else none
  else
    some ([.p (.bool true)], []) := by kernel_rfl
def S14_1010 (l' : List PV) (i' : Int) : St := ⟨(.p (.list true [.int .i64, .int .i64, .str, .int .u8, .int .u8, .int .u8] l')) :: .undef :: .undef :: (.p (.int .i64 i')) :: List.replicate 32 .undef, []⟩
theorem e14 (C : CallF) (l : List PV) : acallI tab C 14 [.p (.list true [.int .i64, .int .i64, .str, .int .u8, .int .u8, .int .u8] l)] [] =
  L tab C 14 [] [.lp [1, 0, 1, 0]] (S14_1010 l 0) := by kernel_rfl
theorem e14_1010 (C : CallF) (l' : List PV) (i' : Int) : R tab C 14 [] [.lp [1, 0, 1, 0]] (S14_1010 l' i') =
  bif (ltI i' ((l'.length : Nat) : Int)) then
    bif ((leI (0 : Int) i') && (ltI i' ((l'.length : Nat) : Int))) then (C 15 [.p (.agg [.int .i64 (((l'.getD i'.toNat .nil).cell 0).toInt), .int .i64 (((l'.getD i'.toNat .nil).cell 1).toInt), .str (((l'.getD i'.toNat .nil).cell 2).toStr), .int .u8 (((l'.getD i'.toNat .nil).cell 3).toInt), .int .u8 (((l'.getD i'.toNat .nil).cell 4).toInt), .int .u8 (((l'.getD i'.toNat .nil).cell 5).toInt)])] []).bind fun r1 =>
    bif (!(r1.1.headD .undef).pv.toBool) then
      some ([.p (.bool false)], [])
    else
      bif (gtI i' (0 : Int)) then
        bif ((leI (0 : Int) (IntKind.i64.wrap (i' - (1 : Int)))) && (ltI (IntKind.i64.wrap (i' - (1 : Int))) ((l'.length : Nat) : Int))) then bif ((leI (0 : Int) i') && (ltI i' ((l'.length : Nat) : Int))) then (C 43 [.p (.agg [.int .i64 (((l'.getD ((IntKind.i64.wrap (i' - (1 : Int))).toNat) .nil).cell 0).toInt), .int .i64 (((l'.getD ((IntKind.i64.wrap (i' - (1 : Int))).toNat) .nil).cell 1).toInt), .str (((l'.getD ((IntKind.i64.wrap (i' - (1 : Int))).toNat) .nil).cell 2).toStr), .int .u8 (((l'.getD ((IntKind.i64.wrap (i' - (1 : Int))).toNat) .nil).cell 3).toInt), .int .u8 (((l'.getD ((IntKind.i64.wrap (i' - (1 : Int))).toNat) .nil).cell 4).toInt), .int .u8 (((l'.getD ((IntKind.i64.wrap (i' - (1 : Int))).toNat) .nil).cell 5).toInt)]), .p (.agg [.int .i64 (((l'.getD i'.toNat .nil).cell 0).toInt), .int .i64 (((l'.getD i'.toNat .nil).cell 1).toInt), .str (((l'.getD i'.toNat .nil).cell 2).toStr), .int .u8 (((l'.getD i'.toNat .nil).cell 3).toInt), .int .u8 (((l'.getD i'.toNat .nil).cell 4).toInt), .int .u8 (((l'.getD i'.toNat .nil).cell 5).toInt)])] []).bind fun r2 =>
        bif (!(r2.1.headD .undef).pv.toBool) then
          some ([.p (.bool false)], [])
        else
          L tab C 14 [] [.lp [1, 0, 1, 0]] (S14_1010 l' (IntKind.i64.wrap (i' + (1 : Int)))) else none else none
      else
        L tab C 14 [] [.lp [1, 0, 1, 0]] (S14_1010 l' (IntKind.i64.wrap (i' + (1 : Int)))) else none
  else
    some ([.p (.bool (leI ((l'.length : Nat) : Int) (1000 : Int)))], []) := by kernel_rfl
theorem e15 (C : CallF) (c_0 : Int) (c_1 : Int) (c_2 : ByteArray) (c_3 : Int) (c_4 : Int) (c_5 : Int) : acallI tab C 15 [.p (.agg [.int .i64 c_0, .int .i64 c_1, .str c_2, .int .u8 c_3, .int .u8 c_4, .int .u8 c_5])] [] =
  (C 44 [.p (.int .i64 c_0)] []).bind fun r1 =>
  bif (r1.1.headD .undef).pv.toBool then
    (C 44 [.p (.int .i64 c_1)] []).bind fun r2 =>
    bif (r2.1.headD .undef).pv.toBool then
      (C 45 [.p (.str c_2)] []).bind fun r3 =>
      some ([.p (.bool ((r3.1.headD .undef).pv.toBool))], [])
    else
      some ([.p (.bool false)], [])
  else
    some ([.p (.bool false)], []) := by kernel_rfl
def S16_111010 (time' : Int) (now : PV) (t29_o : Nat) (t29_l : Nat) (t30' : Int) (t31' : Int) (b6_b0 : Int) (b6_b1 : Int) (b6_b2 : Int) (b29_b : List PV) : St := ⟨.undef :: .undef :: (.p (.int .i64 time')) :: .undef :: .undef :: .undef :: (.ptr 6 0 0) :: .undef :: (.p now) :: .undef :: .undef :: .undef :: .undef :: .undef :: .undef :: .undef :: .undef :: .undef :: .undef :: .undef :: .undef :: .undef :: .undef :: .undef :: .undef :: .undef :: .undef :: .undef :: .undef :: (.slice 29 6 t29_o t29_l) :: (.p (.int .i64 t30')) :: (.p (.int .i64 t31')) :: List.replicate 16 .undef, [(6, .box [.p (.int .u8 b6_b0), .p (.int .u8 b6_b1), .p (.int .u8 b6_b2)]), (29, .arr true [.int .i64, .int .i64, .str, .int .u8, .int .u8, .int .u8] b29_b)]⟩
theorem e16 (C : CallF) (l : List PV) (group : ByteArray) (time : Int) : acallI tab C 16 [.p (.list true [.int .i64, .int .i64, .str, .int .u8, .int .u8, .int .u8] l), .p (.str group), .p (.int .i64 time)] [] =
  (C 22 [.p (.list true [.int .i64, .int .i64, .str, .int .u8, .int .u8, .int .u8] l)] []).bind fun r1 =>
  bif (!(r1.1.headD .undef).pv.toBool) then
    some ([.p (.agg [.int .u8 0, .int .u8 0, .int .u8 0]), .p (.int .i64 2)], [])
  else
    (C 46 [.p (.str group)] []).bind fun r2 =>
    bif (!(r2.1.headD .undef).pv.toBool) then
      some ([.p (.agg [.int .u8 0, .int .u8 0, .int .u8 0]), .p (.int .i64 2)], [])
    else
      (C 47 [.p (.int .i64 time)] []).bind fun r3 =>
      bif (!(r3.1.headD .undef).pv.toBool) then
        some ([.p (.agg [.int .u8 0, .int .u8 0, .int .u8 0]), .p (.int .i64 3)], [])
      else
        (C 49 [.p (.list true [.int .i64, .int .i64, .str, .int .u8, .int .u8, .int .u8] l), .p (.str group)] []).bind fun r4 =>
        L tab C 16 [] [.lp [1, 1, 1, 0, 1, 0]] (S16_111010 time (.fn 48 []) 0 ((r4.1.headD .undef).freshList.length) (((r4.1.headD .undef).freshList.length : Nat) : Int) 0 0 0 0 ((r4.1.headD .undef).freshList)) := by kernel_rfl
theorem e16_111010 (C : CallF) (time' : Int) (now : PV) (t29_o : Nat) (t29_l : Nat) (t30' : Int) (t31' : Int) (b6_b0 : Int) (b6_b1 : Int) (b6_b2 : Int) (b29_b : List PV) : R tab C 16 [] [.lp [1, 1, 1, 0, 1, 0]] (S16_111010 time' now t29_o t29_l t30' t31' b6_b0 b6_b1 b6_b2 b29_b) =
  bif (ltI t31' t30') then
    bif ((leI (0 : Int) t31') && (ltI t31' (t29_l : Int))) then bif (gtI (((b29_b.getD (t29_o + t31'.toNat) .nil).cell 0).toInt) time') then
      bif (PV.isFn 48 [] now) then
        (C 48 [.p (.int .i64 time')] []).bind fun r1 =>
        some ([.p (.agg [.int .u8 (((r1.1.headD .undef).pv.cell 0).toInt), .int .u8 (((r1.1.headD .undef).pv.cell 1).toInt), .int .u8 (((r1.1.headD .undef).pv.cell 2).toInt)]), .p (.int .i64 0)], [])
      else
        bif (PV.isFn 50 [(true, [.int .i64, .int .i64, .str, .int .u8, .int .u8, .int .u8]), (true, [.int .u8, .int .u8, .int .u8])] now) then (C 50 [.p (.int .i64 time'), .p (.ref [.int .i64 (((now.cap 0).rcell 0).toInt), .int .i64 (((now.cap 0).rcell 1).toInt), .str (((now.cap 0).rcell 2).toStr), .int .u8 (((now.cap 0).rcell 3).toInt), .int .u8 (((now.cap 0).rcell 4).toInt), .int .u8 (((now.cap 0).rcell 5).toInt)]), .p (.ref [.int .u8 (((now.cap 1).rcell 0).toInt), .int .u8 (((now.cap 1).rcell 1).toInt), .int .u8 (((now.cap 1).rcell 2).toInt)])] []).bind fun r2 =>
        some ([.p (.agg [.int .u8 (((r2.1.headD .undef).pv.cell 0).toInt), .int .u8 (((r2.1.headD .undef).pv.cell 1).toInt), .int .u8 (((r2.1.headD .undef).pv.cell 2).toInt)]), .p (.int .i64 0)], []) else none
    else
      bif (PV.isFn 48 [] now) then
        (C 48 [.p (.int .i64 (((b29_b.getD (t29_o + t31'.toNat) .nil).cell 0).toInt))] []).bind fun r3 =>
        L tab C 16 [] [.lp [1, 1, 1, 0, 1, 0]] (S16_111010 time' (.fn 50 [.ref [.int .i64 (((b29_b.getD (t29_o + t31'.toNat) .nil).cell 0).toInt), .int .i64 (((b29_b.getD (t29_o + t31'.toNat) .nil).cell 1).toInt), .str (((b29_b.getD (t29_o + t31'.toNat) .nil).cell 2).toStr), .int .u8 (((b29_b.getD (t29_o + t31'.toNat) .nil).cell 3).toInt), .int .u8 (((b29_b.getD (t29_o + t31'.toNat) .nil).cell 4).toInt), .int .u8 (((b29_b.getD (t29_o + t31'.toNat) .nil).cell 5).toInt)], .ref [.int .u8 (((r3.1.headD .undef).pv.cell 0).toInt), .int .u8 (((r3.1.headD .undef).pv.cell 1).toInt), .int .u8 (((r3.1.headD .undef).pv.cell 2).toInt)]]) t29_o t29_l t30' (IntKind.i64.wrap (t31' + (1 : Int))) b6_b0 b6_b1 b6_b2 b29_b)
      else
        bif (PV.isFn 50 [(true, [.int .i64, .int .i64, .str, .int .u8, .int .u8, .int .u8]), (true, [.int .u8, .int .u8, .int .u8])] now) then (C 50 [.p (.int .i64 (((b29_b.getD (t29_o + t31'.toNat) .nil).cell 0).toInt)), .p (.ref [.int .i64 (((now.cap 0).rcell 0).toInt), .int .i64 (((now.cap 0).rcell 1).toInt), .str (((now.cap 0).rcell 2).toStr), .int .u8 (((now.cap 0).rcell 3).toInt), .int .u8 (((now.cap 0).rcell 4).toInt), .int .u8 (((now.cap 0).rcell 5).toInt)]), .p (.ref [.int .u8 (((now.cap 1).rcell 0).toInt), .int .u8 (((now.cap 1).rcell 1).toInt), .int .u8 (((now.cap 1).rcell 2).toInt)])] []).bind fun r4 =>
        L tab C 16 [] [.lp [1, 1, 1, 0, 1, 0]] (S16_111010 time' (.fn 50 [.ref [.int .i64 (((b29_b.getD (t29_o + t31'.toNat) .nil).cell 0).toInt), .int .i64 (((b29_b.getD (t29_o + t31'.toNat) .nil).cell 1).toInt), .str (((b29_b.getD (t29_o + t31'.toNat) .nil).cell 2).toStr), .int .u8 (((b29_b.getD (t29_o + t31'.toNat) .nil).cell 3).toInt), .int .u8 (((b29_b.getD (t29_o + t31'.toNat) .nil).cell 4).toInt), .int .u8 (((b29_b.getD (t29_o + t31'.toNat) .nil).cell 5).toInt)], .ref [.int .u8 (((r4.1.headD .undef).pv.cell 0).toInt), .int .u8 (((r4.1.headD .undef).pv.cell 1).toInt), .int .u8 (((r4.1.headD .undef).pv.cell 2).toInt)]]) t29_o t29_l t30' (IntKind.i64.wrap (t31' + (1 : Int))) b6_b0 b6_b1 b6_b2 b29_b) else none else none
  else
    bif (PV.isFn 48 [] now) then
      (C 48 [.p (.int .i64 time')] []).bind fun r5 =>
      some ([.p (.agg [.int .u8 (((r5.1.headD .undef).pv.cell 0).toInt), .int .u8 (((r5.1.headD .undef).pv.cell 1).toInt), .int .u8 (((r5.1.headD .undef).pv.cell 2).toInt)]), .p (.int .i64 0)], [])
    else
      bif (PV.isFn 50 [(true, [.int .i64, .int .i64, .str, .int .u8, .int .u8, .int .u8]), (true, [.int .u8, .int .u8, .int .u8])] now) then (C 50 [.p (.int .i64 time'), .p (.ref [.int .i64 (((now.cap 0).rcell 0).toInt), .int .i64 (((now.cap 0).rcell 1).toInt), .str (((now.cap 0).rcell 2).toStr), .int .u8 (((now.cap 0).rcell 3).toInt), .int .u8 (((now.cap 0).rcell 4).toInt), .int .u8 (((now.cap 0).rcell 5).toInt)]), .p (.ref [.int .u8 (((now.cap 1).rcell 0).toInt), .int .u8 (((now.cap 1).rcell 1).toInt), .int .u8 (((now.cap 1).rcell 2).toInt)])] []).bind fun r6 =>
      some ([.p (.agg [.int .u8 (((r6.1.headD .undef).pv.cell 0).toInt), .int .u8 (((r6.1.headD .undef).pv.cell 1).toInt), .int .u8 (((r6.1.headD .undef).pv.cell 2).toInt)]), .p (.int .i64 0)], []) else none := by kernel_rfl
theorem e17 (C : CallF) (l : List PV) (c_0 : Int) (c_1 : Int) (c_2 : ByteArray) (c_3 : Int) (c_4 : Int) (c_5 : Int) : acallI tab C 17 [.p (.list true [.int .i64, .int .i64, .str, .int .u8, .int .u8, .int .u8] l), .p (.agg [.int .i64 c_0, .int .i64 c_1, .str c_2, .int .u8 c_3, .int .u8 c_4, .int .u8 c_5])] [] =
  (C 22 [.p (.list true [.int .i64, .int .i64, .str, .int .u8, .int .u8, .int .u8] l)] []).bind fun r1 =>
  bif (!(r1.1.headD .undef).pv.toBool) then
    some ([.fresh true [.int .i64, .int .i64, .str, .int .u8, .int .u8, .int .u8] [], .p (.int .i64 2)], [])
  else
    (C 52 [.p (.agg [.int .i64 c_0, .int .i64 c_1, .str c_2, .int .u8 c_3, .int .u8 c_4, .int .u8 c_5])] []).bind fun r2 =>
    bif (!(r2.1.headD .undef).pv.toBool) then
      some ([.fresh true [.int .i64, .int .i64, .str, .int .u8, .int .u8, .int .u8] [], .p (.int .i64 2)], [])
    else
      bif (((l.length : Nat) : Int) == (1000 : Int)) then
        some ([.fresh true [.int .i64, .int .i64, .str, .int .u8, .int .u8, .int .u8] [], .p (.int .i64 7)], [])
      else
        (C 53 [.p (.list true [.int .i64, .int .i64, .str, .int .u8, .int .u8, .int .u8] l), .p (.agg [.int .i64 c_0, .int .i64 c_1, .str c_2, .int .u8 c_3, .int .u8 c_4, .int .u8 c_5]), .p (.fn 54 [])] []).bind fun r3 =>
        bif (r3.1.tail.headD .undef).pv.toBool then
          some ([.fresh true [.int .i64, .int .i64, .str, .int .u8, .int .u8, .int .u8] [], .p (.int .i64 11)], [])
        else
          bif ((leI (0 : Int) ((r3.1.headD .undef).pv.toInt)) && ((leI ((r3.1.headD .undef).pv.toInt) ((r3.1.headD .undef).pv.toInt)) && (leI ((r3.1.headD .undef).pv.toInt) ((l.length : Nat) : Int)))) then bif (eqI ((r3.1.headD .undef).pv.toInt) ((r3.1.headD .undef).pv.toInt)) then bif (leN (((l.drop 0).take (((r3.1.headD .undef).pv.toInt - (0 : Int)).toNat)).length + 1) 2147483648) then bif ((leI (0 : Int) ((r3.1.headD .undef).pv.toInt)) && ((leI ((r3.1.headD .undef).pv.toInt) ((l.length : Nat) : Int)) && ((leI ((l.length : Nat) : Int) ((l.length : Nat) : Int)) && (leI ((l.length : Nat) : Int) ((l.length : Nat) : Int))))) then bif (leN ((((l.drop 0).take (((r3.1.headD .undef).pv.toInt - (0 : Int)).toNat)).length + 1) + ((l.drop ((r3.1.headD .undef).pv.toInt.toNat)).take ((((l.length : Nat) : Int) - (r3.1.headD .undef).pv.toInt).toNat)).length) 2147483648) then some ([.fresh true [.int .i64, .int .i64, .str, .int .u8, .int .u8, .int .u8] ((((((((l.drop 0).take (((r3.1.headD .undef).pv.toInt - (0 : Int)).toNat)) ++ ([.agg [.int .i64 c_0, .int .i64 c_1, .str c_2, .int .u8 c_3, .int .u8 c_4, .int .u8 c_5]] : List PV)).drop 0).take (((l.drop 0).take (((r3.1.headD .undef).pv.toInt - (0 : Int)).toNat)).length + 1)) ++ ((l.drop ((r3.1.headD .undef).pv.toInt.toNat)).take ((((l.length : Nat) : Int) - (r3.1.headD .undef).pv.toInt).toNat))).drop 0).take ((((l.drop 0).take (((r3.1.headD .undef).pv.toInt - (0 : Int)).toNat)).length + 1) + ((l.drop ((r3.1.headD .undef).pv.toInt.toNat)).take ((((l.length : Nat) : Int) - (r3.1.headD .undef).pv.toInt).toNat)).length)), .p (.int .i64 0)], []) else none else none else none else none else none := by kernel_rfl
theorem e18 (C : CallF) (l : List PV) (time : Int) (group : ByteArray) : acallI tab C 18 [.p (.list true [.int .i64, .int .i64, .str, .int .u8, .int .u8, .int .u8] l), .p (.int .i64 time), .p (.str group)] [] =
  (C 22 [.p (.list true [.int .i64, .int .i64, .str, .int .u8, .int .u8, .int .u8] l)] []).bind fun r1 =>
  bif (!(r1.1.headD .undef).pv.toBool) then
    some ([.fresh true [.int .i64, .int .i64, .str, .int .u8, .int .u8, .int .u8] [], .p (.int .i64 2)], [])
  else
    (C 46 [.p (.str group)] []).bind fun r2 =>
    bif (!(r2.1.headD .undef).pv.toBool) then
      some ([.fresh true [.int .i64, .int .i64, .str, .int .u8, .int .u8, .int .u8] [], .p (.int .i64 2)], [])
    else
      (C 47 [.p (.int .i64 time)] []).bind fun r3 =>
      bif (!(r3.1.headD .undef).pv.toBool) then
        some ([.fresh true [.int .i64, .int .i64, .str, .int .u8, .int .u8, .int .u8] [], .p (.int .i64 3)], [])
      else
        (C 53 [.p (.list true [.int .i64, .int .i64, .str, .int .u8, .int .u8, .int .u8] l), .p (.agg [.int .i64 time, .int .i64 0, .str group, .int .u8 0, .int .u8 0, .int .u8 0]), .p (.fn 54 [])] []).bind fun r4 =>
        bif (!(r4.1.tail.headD .undef).pv.toBool) then
          some ([.fresh true [.int .i64, .int .i64, .str, .int .u8, .int .u8, .int .u8] [], .p (.int .i64 9)], [])
        else
          bif ((leI (0 : Int) ((r4.1.headD .undef).pv.toInt)) && ((leI ((r4.1.headD .undef).pv.toInt) ((l.length : Nat) : Int)) && (leI ((l.length : Nat) : Int) ((l.length : Nat) : Int)))) then (C 55 [.p (.list true [.int .i64, .int .i64, .str, .int .u8, .int .u8, .int .u8] ((l.drop 0).take (((r4.1.headD .undef).pv.toInt - (0 : Int)).toNat)))] []).bind fun r5 =>
          bif ((leI (0 : Int) (IntKind.i64.wrap ((r4.1.headD .undef).pv.toInt + (1 : Int)))) && ((leI (IntKind.i64.wrap ((r4.1.headD .undef).pv.toInt + (1 : Int))) ((l.length : Nat) : Int)) && ((leI ((l.length : Nat) : Int) ((l.length : Nat) : Int)) && (leI ((l.length : Nat) : Int) ((l.length : Nat) : Int))))) then bif (leN ((r5.1.headD .undef).freshList.length + ((l.drop ((IntKind.i64.wrap ((r4.1.headD .undef).pv.toInt + (1 : Int))).toNat)).take ((((l.length : Nat) : Int) - (IntKind.i64.wrap ((r4.1.headD .undef).pv.toInt + (1 : Int)))).toNat)).length) 2147483648) then some ([.fresh true [.int .i64, .int .i64, .str, .int .u8, .int .u8, .int .u8] (((((((r5.1.headD .undef).freshList).drop 0).take ((r5.1.headD .undef).freshList.length)) ++ ((l.drop ((IntKind.i64.wrap ((r4.1.headD .undef).pv.toInt + (1 : Int))).toNat)).take ((((l.length : Nat) : Int) - (IntKind.i64.wrap ((r4.1.headD .undef).pv.toInt + (1 : Int)))).toNat))).drop 0).take ((r5.1.headD .undef).freshList.length + ((l.drop ((IntKind.i64.wrap ((r4.1.headD .undef).pv.toInt + (1 : Int))).toNat)).take ((((l.length : Nat) : Int) - (IntKind.i64.wrap ((r4.1.headD .undef).pv.toInt + (1 : Int)))).toNat)).length)), .p (.int .i64 0)], []) else none else none else none := by kernel_rfl
def S19_11010 (a' : List PV) (b' : List PV) (i' : Int) : St := ⟨(.p (.list true [.int .i64, .int .i64, .str, .int .u8, .int .u8, .int .u8] a')) :: (.p (.list true [.int .i64, .int .i64, .str, .int .u8, .int .u8, .int .u8] b')) :: .undef :: .undef :: .undef :: (.p (.int .i64 i')) :: List.replicate 20 .undef, []⟩
theorem e19 (C : CallF) (a : List PV) (b : List PV) : acallI tab C 19 [.p (.list true [.int .i64, .int .i64, .str, .int .u8, .int .u8, .int .u8] a), .p (.list true [.int .i64, .int .i64, .str, .int .u8, .int .u8, .int .u8] b)] [] =
  bif (((a.length : Nat) : Int) != ((b.length : Nat) : Int)) then
    some ([.p (.bool false)], [])
  else
    L tab C 19 [] [.lp [1, 1, 0, 1, 0]] (S19_11010 a b 0) := by kernel_rfl
theorem e19_11010 (C : CallF) (a' : List PV) (b' : List PV) (i' : Int) : R tab C 19 [] [.lp [1, 1, 0, 1, 0]] (S19_11010 a' b' i') =
  bif (ltI i' ((a'.length : Nat) : Int)) then
    bif ((leI (0 : Int) i') && (ltI i' ((a'.length : Nat) : Int))) then bif ((leI (0 : Int) i') && (ltI i' ((b'.length : Nat) : Int))) then bif (!((((a'.getD i'.toNat .nil).cell 0).toInt == ((b'.getD i'.toNat .nil).cell 0).toInt) && ((((a'.getD i'.toNat .nil).cell 1).toInt == ((b'.getD i'.toNat .nil).cell 1).toInt) && ((((a'.getD i'.toNat .nil).cell 2).toStr == ((b'.getD i'.toNat .nil).cell 2).toStr) && (((((a'.getD i'.toNat .nil).cell 3).toInt == ((b'.getD i'.toNat .nil).cell 3).toInt) && ((((a'.getD i'.toNat .nil).cell 4).toInt == ((b'.getD i'.toNat .nil).cell 4).toInt) && ((((a'.getD i'.toNat .nil).cell 5).toInt == ((b'.getD i'.toNat .nil).cell 5).toInt) && true))) && true))))) then
      some ([.p (.bool false)], [])
    else
      L tab C 19 [] [.lp [1, 1, 0, 1, 0]] (S19_11010 a' b' (IntKind.i64.wrap (i' + (1 : Int)))) else none else none
  else
    some ([.p (.bool true)], []) := by kernel_rfl
def S20_1111010 (by_' : Int) (out_o : Nat) (out_l : Nat) (t38' : Int) (t39' : Int) (out_b : List PV) : St := ⟨.undef :: (.p (.int .i64 by_')) :: .undef :: .undef :: .undef :: .undef :: (.slice 6 6 out_o out_l) :: .undef :: .undef :: .undef :: .undef :: .undef :: .undef :: .undef :: .undef :: .undef :: .undef :: .undef :: .undef :: .undef :: .undef :: .undef :: .undef :: .undef :: .undef :: .undef :: .undef :: .undef :: .undef :: .undef :: .undef :: .undef :: .undef :: .undef :: .undef :: .undef :: .undef :: .undef :: (.p (.int .i64 t38')) :: (.p (.int .i64 t39')) :: List.replicate 13 .undef, [(6, .arr true [.int .i64, .int .i64, .str, .int .u8, .int .u8, .int .u8] out_b)]⟩
theorem e20 (C : CallF) (l : List PV) (by_ : Int) : acallI tab C 20 [.p (.list true [.int .i64, .int .i64, .str, .int .u8, .int .u8, .int .u8] l), .p (.int .i64 by_)] [] =
  (C 22 [.p (.list true [.int .i64, .int .i64, .str, .int .u8, .int .u8, .int .u8] l)] []).bind fun r1 =>
  bif (!(r1.1.headD .undef).pv.toBool) then
    some ([.fresh true [.int .i64, .int .i64, .str, .int .u8, .int .u8, .int .u8] [], .p (.int .i64 2)], [])
  else
    bif (gtI ((l.length : Nat) : Int) (0 : Int)) then
      bif (ltI (0 : Int) ((l.length : Nat) : Int)) then bif (ltI by_ (IntKind.i64.wrap (0 - ((l.getD 0 .nil).cell 0).toInt))) then
        some ([.fresh true [.int .i64, .int .i64, .str, .int .u8, .int .u8, .int .u8] [], .p (.int .i64 3)], [])
      else
        bif ((leI (0 : Int) (IntKind.i64.wrap (((l.length : Nat) : Int) - (1 : Int)))) && (ltI (IntKind.i64.wrap (((l.length : Nat) : Int) - (1 : Int))) ((l.length : Nat) : Int))) then bif (gtI by_ (IntKind.i64.wrap ((3600000 : Int) - ((l.getD ((IntKind.i64.wrap (((l.length : Nat) : Int) - (1 : Int))).toNat) .nil).cell 0).toInt))) then
          some ([.fresh true [.int .i64, .int .i64, .str, .int .u8, .int .u8, .int .u8] [], .p (.int .i64 3)], [])
        else
          (C 55 [.p (.list true [.int .i64, .int .i64, .str, .int .u8, .int .u8, .int .u8] l)] []).bind fun r2 =>
          L tab C 20 [] [.lp [1, 1, 1, 1, 0, 1, 0]] (S20_1111010 by_ 0 ((r2.1.headD .undef).freshList.length) (((r2.1.headD .undef).freshList.length : Nat) : Int) 0 ((r2.1.headD .undef).freshList)) else none else none
    else
      (C 55 [.p (.list true [.int .i64, .int .i64, .str, .int .u8, .int .u8, .int .u8] l)] []).bind fun r3 =>
      L tab C 20 [] [.lp [1, 1, 1, 1, 0, 1, 0]] (S20_1111010 by_ 0 ((r3.1.headD .undef).freshList.length) (((r3.1.headD .undef).freshList.length : Nat) : Int) 0 ((r3.1.headD .undef).freshList)) := by kernel_rfl
theorem e20_1111010 (C : CallF) (by_' : Int) (out_o : Nat) (out_l : Nat) (t38' : Int) (t39' : Int) (out_b : List PV) : R tab C 20 [] [.lp [1, 1, 1, 1, 0, 1, 0]] (S20_1111010 by_' out_o out_l t38' t39' out_b) =
  bif (ltI t39' t38') then
    bif ((leI (0 : Int) t39') && (ltI t39' (out_l : Int))) then bif ((leI (0 : Int) t39') && (ltI t39' (out_l : Int))) then L tab C 20 [] [.lp [1, 1, 1, 1, 0, 1, 0]] (S20_1111010 by_' out_o out_l t38' (IntKind.i64.wrap (t39' + (1 : Int))) (out_b.set (out_o + t39'.toNat) (PV.agg [.int .i64 (IntKind.i64.wrap (((out_b.getD (out_o + t39'.toNat) .nil).cell 0).toInt + by_')), .int .i64 (((out_b.getD (out_o + t39'.toNat) .nil).cell 1).toInt), .str (((out_b.getD (out_o + t39'.toNat) .nil).cell 2).toStr), .int .u8 (((out_b.getD (out_o + t39'.toNat) .nil).cell 3).toInt), .int .u8 (((out_b.getD (out_o + t39'.toNat) .nil).cell 4).toInt), .int .u8 (((out_b.getD (out_o + t39'.toNat) .nil).cell 5).toInt)]))) else none else none
  else
    some ([.fresh true [.int .i64, .int .i64, .str, .int .u8, .int .u8, .int .u8] ((out_b.drop out_o).take out_l), .p (.int .i64 0)], []) := by kernel_rfl
theorem e21 (C : CallF) (l : List PV) (c_0 : Int) (c_1 : Int) (c_2 : ByteArray) (c_3 : Int) (c_4 : Int) (c_5 : Int) : acallI tab C 21 [.p (.list true [.int .i64, .int .i64, .str, .int .u8, .int .u8, .int .u8] l), .p (.agg [.int .i64 c_0, .int .i64 c_1, .str c_2, .int .u8 c_3, .int .u8 c_4, .int .u8 c_5])] [] =
  (C 14 [.p (.list true [.int .i64, .int .i64, .str, .int .u8, .int .u8, .int .u8] l)] []).bind fun r1 =>
  bif (!(r1.1.headD .undef).pv.toBool) then
    some ([.fresh true [.int .i64, .int .i64, .str, .int .u8, .int .u8, .int .u8] [], .p (.int .i64 2)], [])
  else
    (C 15 [.p (.agg [.int .i64 c_0, .int .i64 c_1, .str c_2, .int .u8 c_3, .int .u8 c_4, .int .u8 c_5])] []).bind fun r2 =>
    bif (!(r2.1.headD .undef).pv.toBool) then
      some ([.fresh true [.int .i64, .int .i64, .str, .int .u8, .int .u8, .int .u8] [], .p (.int .i64 2)], [])
    else
      bif (((l.length : Nat) : Int) == (1000 : Int)) then
        some ([.fresh true [.int .i64, .int .i64, .str, .int .u8, .int .u8, .int .u8] [], .p (.int .i64 7)], [])
      else
        (C 56 [.p (.list true [.int .i64, .int .i64, .str, .int .u8, .int .u8, .int .u8] l), .p (.agg [.int .i64 c_0, .int .i64 c_1, .str c_2, .int .u8 c_3, .int .u8 c_4, .int .u8 c_5])] []).bind fun r3 =>
        bif (!(r3.1.tail.headD .undef).pv.toBool) then
          some ([.fresh true [.int .i64, .int .i64, .str, .int .u8, .int .u8, .int .u8] [], .p (.int .i64 11)], [])
        else
          some ([.fresh true [.int .i64, .int .i64, .str, .int .u8, .int .u8, .int .u8] ((((r3.1.headD .undef).freshList).drop 0).take ((r3.1.headD .undef).freshList.length)), .p (.int .i64 0)], []) := by kernel_rfl
theorem e22 (C : CallF) (l : List PV) : acallI tab C 22 [.p (.list true [.int .i64, .int .i64, .str, .int .u8, .int .u8, .int .u8] l)] [] =
  bif (leI ((l.length : Nat) : Int) (1000 : Int)) then
    (C 57 [.p (.list true [.int .i64, .int .i64, .str, .int .u8, .int .u8, .int .u8] l), .p (.fn 54 [])] []).bind fun r1 =>
    bif (r1.1.headD .undef).pv.toBool then
      (C 58 [.p (.list true [.int .i64, .int .i64, .str, .int .u8, .int .u8, .int .u8] l), .p (.fn 59 [])] []).bind fun r2 =>
      some ([.p (.bool (!(r2.1.headD .undef).pv.toBool))], [])
    else
      some ([.p (.bool false)], [])
  else
    some ([.p (.bool false)], []) := by kernel_rfl
def S23_1010 (own_o : Nat) (own_l : Nat) (l' : List PV) (result_o : Nat) (result_l : Nat) (i' : Int) (b100000_b : List PV) (b100001_b : List PV) : St := ⟨(.slice 100000 6 own_o own_l) :: (.p (.list true [.int .i64, .int .i64, .str, .int .u8, .int .u8, .int .u8] l')) :: (.slice 100001 6 result_o result_l) :: .undef :: .undef :: .undef :: .undef :: (.p (.int .i64 i')) :: List.replicate 17 .undef, [(100000, .arr true [.int .i64, .int .i64, .str, .int .u8, .int .u8, .int .u8] b100000_b), (100001, .arr true [.int .i64, .int .i64, .str, .int .u8, .int .u8, .int .u8] b100001_b)]⟩
theorem e23 (C : CallF) (own_o : Nat) (own_l : Nat) (own_b : List PV) (l : List PV) (result_o : Nat) (result_l : Nat) (result_b : List PV) : acallI tab C 23 [.slice 100000 6 own_o own_l, .p (.list true [.int .i64, .int .i64, .str, .int .u8, .int .u8, .int .u8] l), .slice 100001 6 result_o result_l] [.arr true [.int .i64, .int .i64, .str, .int .u8, .int .u8, .int .u8] own_b, .arr true [.int .i64, .int .i64, .str, .int .u8, .int .u8, .int .u8] result_b] =
  L tab C 23 [.arr true [.int .i64, .int .i64, .str, .int .u8, .int .u8, .int .u8] own_b, .arr true [.int .i64, .int .i64, .str, .int .u8, .int .u8, .int .u8] result_b] [.lp [1, 0, 1, 0]] (S23_1010 own_o own_l l result_o result_l 0 own_b result_b) := by kernel_rfl
theorem e23_1010 (C : CallF) (own_b : List PV) (result_b : List PV) (own_o : Nat) (own_l : Nat) (l' : List PV) (result_o : Nat) (result_l : Nat) (i' : Int) (b100000_b : List PV) (b100001_b : List PV) : R tab C 23 [.arr true [.int .i64, .int .i64, .str, .int .u8, .int .u8, .int .u8] own_b, .arr true [.int .i64, .int .i64, .str, .int .u8, .int .u8, .int .u8] result_b] [.lp [1, 0, 1, 0]] (S23_1010 own_o own_l l' result_o result_l i' b100000_b b100001_b) =
  bif (ltI i' (result_l : Int)) then
    bif ((leI (0 : Int) i') && (ltI i' (result_l : Int))) then bif ((leI (0 : Int) i') && (ltI i' (result_l : Int))) then L tab C 23 [.arr true [.int .i64, .int .i64, .str, .int .u8, .int .u8, .int .u8] own_b, .arr true [.int .i64, .int .i64, .str, .int .u8, .int .u8, .int .u8] result_b] [.lp [1, 0, 1, 0]] (S23_1010 own_o own_l l' result_o result_l (IntKind.i64.wrap (i' + (1 : Int))) b100000_b (b100001_b.set (result_o + i'.toNat) (PV.agg [.int .i64 (IntKind.i64.wrap (((b100001_b.getD (result_o + i'.toNat) .nil).cell 0).toInt - (1 : Int))), .int .i64 (((b100001_b.getD (result_o + i'.toNat) .nil).cell 1).toInt), .str (((b100001_b.getD (result_o + i'.toNat) .nil).cell 2).toStr), .int .u8 (((b100001_b.getD (result_o + i'.toNat) .nil).cell 3).toInt), .int .u8 (((b100001_b.getD (result_o + i'.toNat) .nil).cell 4).toInt), .int .u8 (((b100001_b.getD (result_o + i'.toNat) .nil).cell 5).toInt)]))) else none else none
  else
    (C 19 [.p (.list true [.int .i64, .int .i64, .str, .int .u8, .int .u8, .int .u8] ((b100000_b.drop own_o).take own_l)), .p (.list true [.int .i64, .int .i64, .str, .int .u8, .int .u8, .int .u8] l')] []).bind fun r1 =>
    some ([.p (.bool ((r1.1.headD .undef).pv.toBool))], [.arr true [.int .i64, .int .i64, .str, .int .u8, .int .u8, .int .u8] b100000_b, .arr true [.int .i64, .int .i64, .str, .int .u8, .int .u8, .int .u8] b100001_b]) := by kernel_rfl
def S25_111010 (out_o : Nat) (out_l : Nat) (t10' : List PV) (t11' : Int) (t12' : Int) (out_b : List PV) : St := ⟨.undef :: .undef :: .undef :: .undef :: (.slice 4 1 out_o out_l) :: .undef :: .undef :: .undef :: .undef :: .undef :: (.p (.list true [.int .i64, .int .i64, .str, .int .u8, .int .u8, .int .u8] t10')) :: (.p (.int .i64 t11')) :: (.p (.int .i64 t12')) :: List.replicate 13 .undef, [(4, .arr false [.str] out_b)]⟩
theorem e25 (C : CallF) (l : List PV) : acallI tab C 25 [.p (.list true [.int .i64, .int .i64, .str, .int .u8, .int .u8, .int .u8] l)] [] =
  (C 22 [.p (.list true [.int .i64, .int .i64, .str, .int .u8, .int .u8, .int .u8] l)] []).bind fun r1 =>
  bif (!(r1.1.headD .undef).pv.toBool) then
    some ([.fresh false [.str] [], .p (.int .i64 2)], [])
  else
    L tab C 25 [] [.lp [1, 1, 1, 0, 1, 0]] (S25_111010 0 0 l ((l.length : Nat) : Int) 0 []) := by kernel_rfl
theorem e25_111010 (C : CallF) (out_o : Nat) (out_l : Nat) (t10' : List PV) (t11' : Int) (t12' : Int) (out_b : List PV) : R tab C 25 [] [.lp [1, 1, 1, 0, 1, 0]] (S25_111010 out_o out_l t10' t11' t12' out_b) =
  bif (ltI t12' t11') then
    bif ((leI (0 : Int) t12') && (ltI t12' ((t10'.length : Nat) : Int))) then bif (leN (out_l + 1) 2147483648) then L tab C 25 [] [.lp [1, 1, 1, 0, 1, 0]] (S25_111010 0 (out_l + 1) t10' t11' (IntKind.i64.wrap (t12' + (1 : Int))) (((out_b.drop out_o).take out_l) ++ ([.str (((t10'.getD t12'.toNat .nil).cell 2).toStr)] : List PV))) else none else none
  else
    (C 62 [.slice 100000 1 out_o out_l] [.arr false [.str] out_b]).bind fun r1 =>
    (C 63 [.slice 100000 1 out_o out_l] [.arr false [.str] ((r1.2.headD (.box [])).xs)]).bind fun r2 =>
    some ([.fresh false [.str] ((((r2.2.headD (.box [])).xs).drop ((r2.1.headD .undef).sOff)).take ((r2.1.headD .undef).sLen)), .p (.int .i64 0)], []) := by kernel_rfl
def S26_111010 (l' : List PV) (out_o : Nat) (out_l : Nat) (i' : Int) (out_b : List PV) : St := ⟨(.p (.list true [.int .i64, .int .i64, .str, .int .u8, .int .u8, .int .u8] l')) :: .undef :: .undef :: .undef :: (.slice 4 1 out_o out_l) :: (.p (.int .i64 i')) :: List.replicate 63 .undef, [(4, .arr false [.str] out_b)]⟩
def S26_111010_100100 (l' : List PV) (out_o : Nat) (out_l : Nat) (i' : Int) (at_' : Int) (out_b : List PV) : St := ⟨(.p (.list true [.int .i64, .int .i64, .str, .int .u8, .int .u8, .int .u8] l')) :: .undef :: .undef :: .undef :: (.slice 4 1 out_o out_l) :: (.p (.int .i64 i')) :: (.p (.int .i64 at_')) :: List.replicate 62 .undef, [(4, .arr false [.str] out_b)]⟩
theorem e26 (C : CallF) (l : List PV) : acallI tab C 26 [.p (.list true [.int .i64, .int .i64, .str, .int .u8, .int .u8, .int .u8] l)] [] =
  (C 14 [.p (.list true [.int .i64, .int .i64, .str, .int .u8, .int .u8, .int .u8] l)] []).bind fun r1 =>
  bif (!(r1.1.headD .undef).pv.toBool) then
    some ([.fresh false [.str] [], .p (.int .i64 2)], [])
  else
    L tab C 26 [] [.lp [1, 1, 1, 0, 1, 0]] (S26_111010 l 0 0 0 []) := by kernel_rfl
theorem e26_111010 (C : CallF) (l' : List PV) (out_o : Nat) (out_l : Nat) (i' : Int) (out_b : List PV) : R tab C 26 [] [.lp [1, 1, 1, 0, 1, 0]] (S26_111010 l' out_o out_l i' out_b) =
  bif (ltI i' ((l'.length : Nat) : Int)) then
    L tab C 26 [] [.lp [1, 1, 1, 0, 1, 0], .lp [1, 0, 0, 1, 0, 0]] (S26_111010_100100 l' out_o out_l i' 0 out_b)
  else
    some ([.fresh false [.str] ((out_b.drop out_o).take out_l), .p (.int .i64 0)], []) := by kernel_rfl
theorem e26_111010_100100 (C : CallF) (l' : List PV) (out_o : Nat) (out_l : Nat) (i' : Int) (at_' : Int) (out_b : List PV) : R tab C 26 [] [.lp [1, 1, 1, 0, 1, 0], .lp [1, 0, 0, 1, 0, 0]] (S26_111010_100100 l' out_o out_l i' at_' out_b) =
  bif (ltI at_' (out_l : Int)) then
    bif ((leI (0 : Int) at_') && (ltI at_' (out_l : Int))) then bif ((leI (0 : Int) i') && (ltI i' ((l'.length : Nat) : Int))) then bif (bytesLt (((out_b.getD (out_o + at_'.toNat) .nil).cell 0).toStr).toList (((l'.getD i'.toNat .nil).cell 2).toStr).toList) then
      L tab C 26 [] [.lp [1, 1, 1, 0, 1, 0], .lp [1, 0, 0, 1, 0, 0]] (S26_111010_100100 l' out_o out_l i' (IntKind.i64.wrap (at_' + (1 : Int))) out_b)
    else
      bif (at_' == (out_l : Int)) then
        bif ((leI (0 : Int) at_') && ((leI at_' (out_l : Int)) && (leI (out_l : Int) (out_l : Int)))) then bif (leN ((at_' - (0 : Int)).toNat) 2147483648) then bif ((leI (0 : Int) i') && (ltI i' ((l'.length : Nat) : Int))) then bif (leN ((at_' - (0 : Int)).toNat + 1) 2147483648) then bif ((leI (0 : Int) at_') && ((leI at_' (out_l : Int)) && ((leI (out_l : Int) (out_l : Int)) && (leI (out_l : Int) (out_l : Int))))) then bif (leN (((at_' - (0 : Int)).toNat + 1) + ((out_l : Int) - at_').toNat) 2147483648) then L tab C 26 [] [.lp [1, 1, 1, 0, 1, 0]] (S26_111010 l' 0 (((at_' - (0 : Int)).toNat + 1) + ((out_l : Int) - at_').toNat) (IntKind.i64.wrap (i' + (1 : Int))) ((((((((out_b.drop (out_o + 0)).take ((at_' - (0 : Int)).toNat)).drop 0).take ((at_' - (0 : Int)).toNat)) ++ ([.str (((l'.getD i'.toNat .nil).cell 2).toStr)] : List PV)).drop 0).take ((at_' - (0 : Int)).toNat + 1)) ++ ((out_b.drop (out_o + at_'.toNat)).take (((out_l : Int) - at_').toNat)))) else none else none else none else none else none else none
      else
        bif ((leI (0 : Int) at_') && (ltI at_' (out_l : Int))) then bif ((leI (0 : Int) i') && (ltI i' ((l'.length : Nat) : Int))) then bif (!((((out_b.getD (out_o + at_'.toNat) .nil).cell 0).toStr).toList == (((l'.getD i'.toNat .nil).cell 2).toStr).toList)) then
          bif ((leI (0 : Int) at_') && ((leI at_' (out_l : Int)) && (leI (out_l : Int) (out_l : Int)))) then bif (leN ((at_' - (0 : Int)).toNat) 2147483648) then bif ((leI (0 : Int) i') && (ltI i' ((l'.length : Nat) : Int))) then bif (leN ((at_' - (0 : Int)).toNat + 1) 2147483648) then bif ((leI (0 : Int) at_') && ((leI at_' (out_l : Int)) && ((leI (out_l : Int) (out_l : Int)) && (leI (out_l : Int) (out_l : Int))))) then bif (leN (((at_' - (0 : Int)).toNat + 1) + ((out_l : Int) - at_').toNat) 2147483648) then L tab C 26 [] [.lp [1, 1, 1, 0, 1, 0]] (S26_111010 l' 0 (((at_' - (0 : Int)).toNat + 1) + ((out_l : Int) - at_').toNat) (IntKind.i64.wrap (i' + (1 : Int))) ((((((((out_b.drop (out_o + 0)).take ((at_' - (0 : Int)).toNat)).drop 0).take ((at_' - (0 : Int)).toNat)) ++ ([.str (((l'.getD i'.toNat .nil).cell 2).toStr)] : List PV)).drop 0).take ((at_' - (0 : Int)).toNat + 1)) ++ ((out_b.drop (out_o + at_'.toNat)).take (((out_l : Int) - at_').toNat)))) else none else none else none else none else none else none
        else
          L tab C 26 [] [.lp [1, 1, 1, 0, 1, 0]] (S26_111010 l' out_o out_l (IntKind.i64.wrap (i' + (1 : Int))) out_b) else none else none else none else none
  else
    bif (at_' == (out_l : Int)) then
      bif ((leI (0 : Int) at_') && ((leI at_' (out_l : Int)) && (leI (out_l : Int) (out_l : Int)))) then bif (leN ((at_' - (0 : Int)).toNat) 2147483648) then bif ((leI (0 : Int) i') && (ltI i' ((l'.length : Nat) : Int))) then bif (leN ((at_' - (0 : Int)).toNat + 1) 2147483648) then bif ((leI (0 : Int) at_') && ((leI at_' (out_l : Int)) && ((leI (out_l : Int) (out_l : Int)) && (leI (out_l : Int) (out_l : Int))))) then bif (leN (((at_' - (0 : Int)).toNat + 1) + ((out_l : Int) - at_').toNat) 2147483648) then L tab C 26 [] [.lp [1, 1, 1, 0, 1, 0]] (S26_111010 l' 0 (((at_' - (0 : Int)).toNat + 1) + ((out_l : Int) - at_').toNat) (IntKind.i64.wrap (i' + (1 : Int))) ((((((((out_b.drop (out_o + 0)).take ((at_' - (0 : Int)).toNat)).drop 0).take ((at_' - (0 : Int)).toNat)) ++ ([.str (((l'.getD i'.toNat .nil).cell 2).toStr)] : List PV)).drop 0).take ((at_' - (0 : Int)).toNat + 1)) ++ ((out_b.drop (out_o + at_'.toNat)).take (((out_l : Int) - at_').toNat)))) else none else none else none else none else none else none
    else
      bif ((leI (0 : Int) at_') && (ltI at_' (out_l : Int))) then bif ((leI (0 : Int) i') && (ltI i' ((l'.length : Nat) : Int))) then bif (!((((out_b.getD (out_o + at_'.toNat) .nil).cell 0).toStr).toList == (((l'.getD i'.toNat .nil).cell 2).toStr).toList)) then
        bif ((leI (0 : Int) at_') && ((leI at_' (out_l : Int)) && (leI (out_l : Int) (out_l : Int)))) then bif (leN ((at_' - (0 : Int)).toNat) 2147483648) then bif ((leI (0 : Int) i') && (ltI i' ((l'.length : Nat) : Int))) then bif (leN ((at_' - (0 : Int)).toNat + 1) 2147483648) then bif ((leI (0 : Int) at_') && ((leI at_' (out_l : Int)) && ((leI (out_l : Int) (out_l : Int)) && (leI (out_l : Int) (out_l : Int))))) then bif (leN (((at_' - (0 : Int)).toNat + 1) + ((out_l : Int) - at_').toNat) 2147483648) then L tab C 26 [] [.lp [1, 1, 1, 0, 1, 0]] (S26_111010 l' 0 (((at_' - (0 : Int)).toNat + 1) + ((out_l : Int) - at_').toNat) (IntKind.i64.wrap (i' + (1 : Int))) ((((((((out_b.drop (out_o + 0)).take ((at_' - (0 : Int)).toNat)).drop 0).take ((at_' - (0 : Int)).toNat)) ++ ([.str (((l'.getD i'.toNat .nil).cell 2).toStr)] : List PV)).drop 0).take ((at_' - (0 : Int)).toNat + 1)) ++ ((out_b.drop (out_o + at_'.toNat)).take (((out_l : Int) - at_').toNat)))) else none else none else none else none else none else none
      else
        L tab C 26 [] [.lp [1, 1, 1, 0, 1, 0]] (S26_111010 l' out_o out_l (IntKind.i64.wrap (i' + (1 : Int))) out_b) else none else none := by kernel_rfl
theorem e27 (C : CallF) (l : List PV) (group : ByteArray) : acallI tab C 27 [.p (.list true [.int .i64, .int .i64, .str, .int .u8, .int .u8, .int .u8] l), .p (.str group)] [] =
  (C 22 [.p (.list true [.int .i64, .int .i64, .str, .int .u8, .int .u8, .int .u8] l)] []).bind fun r1 =>
  bif (!(r1.1.headD .undef).pv.toBool) then
    some ([.fresh true [.int .i64, .int .i64, .str, .int .u8, .int .u8, .int .u8] [], .p (.int .i64 2)], [])
  else
    (C 46 [.p (.str group)] []).bind fun r2 =>
    bif (!(r2.1.headD .undef).pv.toBool) then
      some ([.fresh true [.int .i64, .int .i64, .str, .int .u8, .int .u8, .int .u8] [], .p (.int .i64 2)], [])
    else
      (C 49 [.p (.list true [.int .i64, .int .i64, .str, .int .u8, .int .u8, .int .u8] l), .p (.str group)] []).bind fun r3 =>
      some ([.fresh true [.int .i64, .int .i64, .str, .int .u8, .int .u8, .int .u8] ((((r3.1.headD .undef).freshList).drop 0).take ((r3.1.headD .undef).freshList.length)), .p (.int .i64 0)], []) := by kernel_rfl
theorem e28 (C : CallF) (l : List PV) (group : ByteArray) : acallI tab C 28 [.p (.list true [.int .i64, .int .i64, .str, .int .u8, .int .u8, .int .u8] l), .p (.str group)] [] =
  (C 14 [.p (.list true [.int .i64, .int .i64, .str, .int .u8, .int .u8, .int .u8] l)] []).bind fun r1 =>
  bif (!(r1.1.headD .undef).pv.toBool) then
    some ([.fresh true [.int .i64, .int .i64, .str, .int .u8, .int .u8, .int .u8] [], .p (.int .i64 2)], [])
  else
    (C 45 [.p (.str group)] []).bind fun r2 =>
    bif (!(r2.1.headD .undef).pv.toBool) then
      some ([.fresh true [.int .i64, .int .i64, .str, .int .u8, .int .u8, .int .u8] [], .p (.int .i64 2)], [])
    else
      (C 61 [.p (.list true [.int .i64, .int .i64, .str, .int .u8, .int .u8, .int .u8] l), .p (.str group)] []).bind fun r3 =>
      some ([.fresh true [.int .i64, .int .i64, .str, .int .u8, .int .u8, .int .u8] ((((r3.1.headD .undef).freshList).drop 0).take ((r3.1.headD .undef).freshList.length)), .p (.int .i64 0)], []) := by kernel_rfl
def S29_11010 (a' : List PV) (b' : List PV) (i' : Int) : St := ⟨(.p (.list false [.str] a')) :: (.p (.list false [.str] b')) :: .undef :: .undef :: .undef :: (.p (.int .i64 i')) :: List.replicate 20 .undef, []⟩
theorem e29 (C : CallF) (a : List PV) (b : List PV) : acallI tab C 29 [.p (.list false [.str] a), .p (.list false [.str] b)] [] =
  bif (((a.length : Nat) : Int) != ((b.length : Nat) : Int)) then
    some ([.p (.bool false)], [])
  else
    L tab C 29 [] [.lp [1, 1, 0, 1, 0]] (S29_11010 a b 0) := by kernel_rfl
theorem e29_11010 (C : CallF) (a' : List PV) (b' : List PV) (i' : Int) : R tab C 29 [] [.lp [1, 1, 0, 1, 0]] (S29_11010 a' b' i') =
  bif (ltI i' ((a'.length : Nat) : Int)) then
    bif ((leI (0 : Int) i') && (ltI i' ((a'.length : Nat) : Int))) then bif ((leI (0 : Int) i') && (ltI i' ((b'.length : Nat) : Int))) then bif (!((((a'.getD i'.toNat .nil).cell 0).toStr).toList == (((b'.getD i'.toNat .nil).cell 0).toStr).toList)) then
      some ([.p (.bool false)], [])
    else
      L tab C 29 [] [.lp [1, 1, 0, 1, 0]] (S29_11010 a' b' (IntKind.i64.wrap (i' + (1 : Int)))) else none else none
  else
    some ([.p (.bool true)], []) := by kernel_rfl
def S30_111010 (l' : List PV) (by_' : Int) (out_o : Nat) (out_l : Nat) (i' : Int) (out_b : List PV) : St := ⟨(.p (.list true [.int .i64, .int .i64, .str, .int .u8, .int .u8, .int .u8] l')) :: (.p (.int .i64 by_')) :: .undef :: .undef :: .undef :: .undef :: (.slice 6 6 out_o out_l) :: (.p (.int .i64 i')) :: List.replicate 38 .undef, [(6, .arr true [.int .i64, .int .i64, .str, .int .u8, .int .u8, .int .u8] out_b)]⟩
theorem e30 (C : CallF) (l : List PV) (by_ : Int) : acallI tab C 30 [.p (.list true [.int .i64, .int .i64, .str, .int .u8, .int .u8, .int .u8] l), .p (.int .i64 by_)] [] =
  (C 14 [.p (.list true [.int .i64, .int .i64, .str, .int .u8, .int .u8, .int .u8] l)] []).bind fun r1 =>
  bif (!(r1.1.headD .undef).pv.toBool) then
    some ([.fresh true [.int .i64, .int .i64, .str, .int .u8, .int .u8, .int .u8] [], .p (.int .i64 2)], [])
  else
    L tab C 30 [] [.lp [1, 1, 1, 0, 1, 0]] (S30_111010 l by_ 0 0 0 []) := by kernel_rfl
theorem e30_111010 (C : CallF) (l' : List PV) (by_' : Int) (out_o : Nat) (out_l : Nat) (i' : Int) (out_b : List PV) : R tab C 30 [] [.lp [1, 1, 1, 0, 1, 0]] (S30_111010 l' by_' out_o out_l i' out_b) =
  bif (ltI i' ((l'.length : Nat) : Int)) then
    bif ((leI (0 : Int) i') && (ltI i' ((l'.length : Nat) : Int))) then bif (gtI by_' (3600000 : Int)) then
      some ([.fresh true [.int .i64, .int .i64, .str, .int .u8, .int .u8, .int .u8] [], .p (.int .i64 3)], [])
    else
      bif (ltI by_' (-3600000 : Int)) then
        some ([.fresh true [.int .i64, .int .i64, .str, .int .u8, .int .u8, .int .u8] [], .p (.int .i64 3)], [])
      else
        (C 44 [.p (.int .i64 (IntKind.i64.wrap (((l'.getD i'.toNat .nil).cell 0).toInt + by_')))] []).bind fun r1 =>
        bif (!(r1.1.headD .undef).pv.toBool) then
          some ([.fresh true [.int .i64, .int .i64, .str, .int .u8, .int .u8, .int .u8] [], .p (.int .i64 3)], [])
        else
          bif (leN (out_l + 1) 2147483648) then L tab C 30 [] [.lp [1, 1, 1, 0, 1, 0]] (S30_111010 l' by_' 0 (out_l + 1) (IntKind.i64.wrap (i' + (1 : Int))) (((out_b.drop out_o).take out_l) ++ ([.agg [.int .i64 (IntKind.i64.wrap (((l'.getD i'.toNat .nil).cell 0).toInt + by_')), .int .i64 (((l'.getD i'.toNat .nil).cell 1).toInt), .str (((l'.getD i'.toNat .nil).cell 2).toStr), .int .u8 (((l'.getD i'.toNat .nil).cell 3).toInt), .int .u8 (((l'.getD i'.toNat .nil).cell 4).toInt), .int .u8 (((l'.getD i'.toNat .nil).cell 5).toInt)]] : List PV))) else none else none
  else
    some ([.fresh true [.int .i64, .int .i64, .str, .int .u8, .int .u8, .int .u8] ((out_b.drop out_o).take out_l), .p (.int .i64 0)], []) := by kernel_rfl
def S31_111010 (tempos' : List PV) (step' : Int) (out_o : Nat) (out_l : Nat) (t32_o : Nat) (t32_l : Nat) (t33' : Int) (t34' : Int) (out_b : List PV) : St := ⟨.undef :: (.p (.list true [.int .i64, .int .i64] tempos')) :: (.p (.int .i64 step')) :: .undef :: .undef :: .undef :: .undef :: .undef :: .undef :: .undef :: (.slice 10 6 out_o out_l) :: .undef :: .undef :: .undef :: .undef :: .undef :: .undef :: .undef :: .undef :: .undef :: .undef :: .undef :: .undef :: .undef :: .undef :: .undef :: .undef :: .undef :: .undef :: .undef :: .undef :: .undef :: (.slice 10 6 t32_o t32_l) :: (.p (.int .i64 t33')) :: (.p (.int .i64 t34')) :: List.replicate 33 .undef, [(10, .arr true [.int .i64, .int .i64, .str, .int .u8, .int .u8, .int .u8] out_b)]⟩
theorem e31 (C : CallF) (l : List PV) (tempos : List PV) (step : Int) : acallI tab C 31 [.p (.list true [.int .i64, .int .i64, .str, .int .u8, .int .u8, .int .u8] l), .p (.list true [.int .i64, .int .i64] tempos), .p (.int .i64 step)] [] =
  (C 64 [.p (.list true [.int .i64, .int .i64] tempos), .p (.int .i64 0), .p (.int .i64 step)] []).bind fun r1 =>
  bif ((r1.1.tail.headD .undef).pv.toInt != (0 : Int)) then
    some ([.fresh true [.int .i64, .int .i64, .str, .int .u8, .int .u8, .int .u8] [], .p (.int .i64 2)], [])
  else
    (C 22 [.p (.list true [.int .i64, .int .i64, .str, .int .u8, .int .u8, .int .u8] l)] []).bind fun r2 =>
    bif (!(r2.1.headD .undef).pv.toBool) then
      some ([.fresh true [.int .i64, .int .i64, .str, .int .u8, .int .u8, .int .u8] [], .p (.int .i64 2)], [])
    else
      (C 55 [.p (.list true [.int .i64, .int .i64, .str, .int .u8, .int .u8, .int .u8] l)] []).bind fun r3 =>
      L tab C 31 [] [.lp [1, 1, 1, 0, 1, 0]] (S31_111010 tempos step 0 ((r3.1.headD .undef).freshList.length) 0 ((r3.1.headD .undef).freshList.length) (((r3.1.headD .undef).freshList.length : Nat) : Int) 0 ((r3.1.headD .undef).freshList)) := by kernel_rfl
theorem e31_111010 (C : CallF) (tempos' : List PV) (step' : Int) (out_o : Nat) (out_l : Nat) (t32_o : Nat) (t32_l : Nat) (t33' : Int) (t34' : Int) (out_b : List PV) : R tab C 31 [] [.lp [1, 1, 1, 0, 1, 0]] (S31_111010 tempos' step' out_o out_l t32_o t32_l t33' t34' out_b) =
  bif (ltI t34' t33') then
    bif ((leI (0 : Int) t34') && (ltI t34' (t32_l : Int))) then (C 64 [.p (.list true [.int .i64, .int .i64] tempos'), .p (.int .i64 (((out_b.getD (t32_o + t34'.toNat) .nil).cell 0).toInt)), .p (.int .i64 step')] []).bind fun r1 =>
    (C 65 [.p (.list true [.int .i64, .int .i64] tempos'), .p (.int .i64 ((r1.1.headD .undef).pv.toInt))] []).bind fun r2 =>
    bif ((r2.1.tail.headD .undef).pv.toInt != (0 : Int)) then
      some ([.fresh true [.int .i64, .int .i64, .str, .int .u8, .int .u8, .int .u8] [], .p (.int .i64 ((r2.1.tail.headD .undef).pv.toInt))], [])
    else
      bif ((leI (0 : Int) t34') && (ltI t34' (out_l : Int))) then L tab C 31 [] [.lp [1, 1, 1, 0, 1, 0]] (S31_111010 tempos' step' out_o out_l t32_o t32_l t33' (IntKind.i64.wrap (t34' + (1 : Int))) (out_b.set (out_o + t34'.toNat) (PV.agg [.int .i64 ((r2.1.headD .undef).pv.toInt), .int .i64 (((out_b.getD (out_o + t34'.toNat) .nil).cell 1).toInt), .str (((out_b.getD (out_o + t34'.toNat) .nil).cell 2).toStr), .int .u8 (((out_b.getD (out_o + t34'.toNat) .nil).cell 3).toInt), .int .u8 (((out_b.getD (out_o + t34'.toNat) .nil).cell 4).toInt), .int .u8 (((out_b.getD (out_o + t34'.toNat) .nil).cell 5).toInt)]))) else none else none
  else
    (C 66 [.slice 100000 6 out_o out_l, .p (.fn 54 [])] [.arr true [.int .i64, .int .i64, .str, .int .u8, .int .u8, .int .u8] out_b]).bind fun r3 =>
    (C 57 [.p (.list true [.int .i64, .int .i64, .str, .int .u8, .int .u8, .int .u8] ((((r3.2.headD (.box [])).xs).drop out_o).take out_l)), .p (.fn 54 [])] []).bind fun r4 =>
    bif (!(r4.1.headD .undef).pv.toBool) then
      some ([.fresh true [.int .i64, .int .i64, .str, .int .u8, .int .u8, .int .u8] [], .p (.int .i64 11)], [])
    else
      some ([.fresh true [.int .i64, .int .i64, .str, .int .u8, .int .u8, .int .u8] ((((r3.2.headD (.box [])).xs).drop out_o).take out_l), .p (.int .i64 0)], []) := by kernel_rfl
def S32_1111010 (l' : List PV) (tempos' : List PV) (step' : Int) (out_o : Nat) (out_l : Nat) (busy' : Bool) (i' : Int) (out_b : List PV) : St := ⟨(.p (.list true [.int .i64, .int .i64, .str, .int .u8, .int .u8, .int .u8] l')) :: (.p (.list true [.int .i64, .int .i64] tempos')) :: (.p (.int .i64 step')) :: .undef :: .undef :: .undef :: .undef :: .undef :: (.slice 8 6 out_o out_l) :: (.p (.bool busy')) :: (.p (.int .i64 i')) :: List.replicate 62 .undef, [(8, .arr true [.int .i64, .int .i64, .str, .int .u8, .int .u8, .int .u8] out_b)]⟩
theorem e32 (C : CallF) (l : List PV) (tempos : List PV) (step : Int) : acallI tab C 32 [.p (.list true [.int .i64, .int .i64, .str, .int .u8, .int .u8, .int .u8] l), .p (.list true [.int .i64, .int .i64] tempos), .p (.int .i64 step)] [] =
  (C 14 [.p (.list true [.int .i64, .int .i64, .str, .int .u8, .int .u8, .int .u8] l)] []).bind fun r1 =>
  bif (!(r1.1.headD .undef).pv.toBool) then
    some ([.fresh true [.int .i64, .int .i64, .str, .int .u8, .int .u8, .int .u8] [], .p (.int .i64 2)], [])
  else
    (C 67 [.p (.list true [.int .i64, .int .i64] tempos)] []).bind fun r2 =>
    bif (!(r2.1.headD .undef).pv.toBool) then
      some ([.fresh true [.int .i64, .int .i64, .str, .int .u8, .int .u8, .int .u8] [], .p (.int .i64 2)], [])
    else
      bif (ltI step (1 : Int)) then
        some ([.fresh true [.int .i64, .int .i64, .str, .int .u8, .int .u8, .int .u8] [], .p (.int .i64 2)], [])
      else
        bif (gtI step (4194304 : Int)) then
          some ([.fresh true [.int .i64, .int .i64, .str, .int .u8, .int .u8, .int .u8] [], .p (.int .i64 2)], [])
        else
          L tab C 32 [] [.lp [1, 1, 1, 1, 0, 1, 0]] (S32_1111010 l tempos step 0 0 false 0 []) := by kernel_rfl
theorem e32_1111010 (C : CallF) (l' : List PV) (tempos' : List PV) (step' : Int) (out_o : Nat) (out_l : Nat) (busy' : Bool) (i' : Int) (out_b : List PV) : R tab C 32 [] [.lp [1, 1, 1, 1, 0, 1, 0]] (S32_1111010 l' tempos' step' out_o out_l busy' i' out_b) =
  bif (ltI i' ((l'.length : Nat) : Int)) then
    bif ((leI (0 : Int) i') && (ltI i' ((l'.length : Nat) : Int))) then (C 68 [.p (.list true [.int .i64, .int .i64] tempos'), .p (.int .i64 (((l'.getD i'.toNat .nil).cell 0).toInt)), .p (.int .i64 step')] []).bind fun r1 =>
    (C 69 [.p (.list true [.int .i64, .int .i64] tempos'), .p (.int .i64 ((r1.1.headD .undef).pv.toInt))] []).bind fun r2 =>
    bif ((r2.1.tail.headD .undef).pv.toInt != (0 : Int)) then
      some ([.fresh true [.int .i64, .int .i64, .str, .int .u8, .int .u8, .int .u8] [], .p (.int .i64 ((r2.1.tail.headD .undef).pv.toInt))], [])
    else
      (C 56 [.p (.list true [.int .i64, .int .i64, .str, .int .u8, .int .u8, .int .u8] ((out_b.drop out_o).take out_l)), .p (.agg [.int .i64 ((r2.1.headD .undef).pv.toInt), .int .i64 (((l'.getD i'.toNat .nil).cell 1).toInt), .str (((l'.getD i'.toNat .nil).cell 2).toStr), .int .u8 (((l'.getD i'.toNat .nil).cell 3).toInt), .int .u8 (((l'.getD i'.toNat .nil).cell 4).toInt), .int .u8 (((l'.getD i'.toNat .nil).cell 5).toInt)])] []).bind fun r3 =>
      bif (r3.1.tail.headD .undef).pv.toBool then
        L tab C 32 [] [.lp [1, 1, 1, 1, 0, 1, 0]] (S32_1111010 l' tempos' step' 0 ((r3.1.headD .undef).freshList.length) busy' (IntKind.i64.wrap (i' + (1 : Int))) ((r3.1.headD .undef).freshList))
      else
        L tab C 32 [] [.lp [1, 1, 1, 1, 0, 1, 0]] (S32_1111010 l' tempos' step' out_o out_l true (IntKind.i64.wrap (i' + (1 : Int))) out_b) else none
  else
    bif busy' then
      some ([.fresh true [.int .i64, .int .i64, .str, .int .u8, .int .u8, .int .u8] [], .p (.int .i64 11)], [])
    else
      some ([.fresh true [.int .i64, .int .i64, .str, .int .u8, .int .u8, .int .u8] ((out_b.drop out_o).take out_l), .p (.int .i64 0)], []) := by kernel_rfl
theorem e33 (C : CallF) (c_0 : Int) (c_1 : Int) (c_2 : ByteArray) (c_3 : Int) (c_4 : Int) (c_5 : Int) : acallI tab C 33 [.p (.agg [.int .i64 c_0, .int .i64 c_1, .str c_2, .int .u8 c_3, .int .u8 c_4, .int .u8 c_5])] [] =
  (C 52 [.p (.agg [.int .i64 c_0, .int .i64 c_1, .str c_2, .int .u8 c_3, .int .u8 c_4, .int .u8 c_5])] []).bind fun r1 =>
  bif (!(r1.1.headD .undef).pv.toBool) then
    some ([.p (.str ⟨#[]⟩), .p (.int .i64 2)], [])
  else
    (C 71 [.p (.int .i64 c_0)] []).bind fun r2 =>
    (C 72 [.p (.agg [.int .u8 c_3, .int .u8 c_4, .int .u8 c_5])] []).bind fun r3 =>
    (C 71 [.p (.int .i64 c_1)] []).bind fun r4 =>
    (C 70 [.p (.list false [.str] [.str ⟨#[99, 117, 101]⟩, .str ((r2.1.headD .undef).pv.toStr), .str c_2, .str ((r3.1.headD .undef).pv.toStr), .str ((r4.1.headD .undef).pv.toStr)]), .p (.str ⟨#[32]⟩)] []).bind fun r5 =>
    some ([.p (.str ((r5.1.headD .undef).pv.toStr)), .p (.int .i64 0)], []) := by kernel_rfl
theorem e35 (C : CallF)  : acallI tab C 35 [] [] =
  some ([.fresh true [.int .i64, .int .i64, .str, .int .u8, .int .u8, .int .u8] [.agg [.int .i64 1000, .int .i64 0, .str ⟨#[97]⟩, .int .u8 255, .int .u8 0, .int .u8 0], .agg [.int .i64 2000, .int .i64 1000, .str ⟨#[97]⟩, .int .u8 0, .int .u8 0, .int .u8 255]]], []) := by kernel_rfl
theorem e36 (C : CallF) (group : ByteArray) (time : Int) (want_0 : Int) (want_1 : Int) (want_2 : Int) : acallI tab C 36 [.p (.str group), .p (.int .i64 time), .p (.agg [.int .u8 want_0, .int .u8 want_1, .int .u8 want_2])] [] =
  (C 35 [] []).bind fun r1 =>
  (C 16 [.p (.list true [.int .i64, .int .i64, .str, .int .u8, .int .u8, .int .u8] ((((r1.1.headD .undef).freshList).drop 0).take ((r1.1.headD .undef).freshList.length))), .p (.str group), .p (.int .i64 time)] []).bind fun r2 =>
  bif ((r2.1.tail.headD .undef).pv.toInt == (0 : Int)) then
    some ([.p (.bool ((((r2.1.headD .undef).pv.cell 0).toInt == want_0) && ((((r2.1.headD .undef).pv.cell 1).toInt == want_1) && ((((r2.1.headD .undef).pv.cell 2).toInt == want_2) && true))))], [])
  else
    some ([.p (.bool false)], []) := by kernel_rfl
def S39_111010 (s' : ByteArray) (t12' : Int) (b2_b0 : Int) (b2_b1 : Int) (b2_b2 : Int) (parts_b0 : Int) (parts_b1 : Int) (parts_b2 : Int) : St := ⟨(.p (.str s')) :: .undef :: (.ptr 2 0 0) :: .undef :: (.ptr 4 0 0) :: .undef :: .undef :: .undef :: .undef :: .undef :: .undef :: .undef :: (.p (.int .i64 t12')) :: List.replicate 37 .undef, [(2, .box [.p (.int .u8 b2_b0), .p (.int .u8 b2_b1), .p (.int .u8 b2_b2)]), (4, .box [.p (.int .u8 parts_b0), .p (.int .u8 parts_b1), .p (.int .u8 parts_b2)])]⟩
theorem e39 (C : CallF) (s : ByteArray) : acallI tab C 39 [.p (.str s)] [] =
  bif (((s.size : Nat) : Int) != (7 : Int)) then
    some ([.p (.agg [.int .u8 0, .int .u8 0, .int .u8 0]), .p (.int .i64 6)], [])
  else
    L tab C 39 [] [.lp [1, 1, 1, 0, 1, 0]] (S39_111010 s 0 0 0 0 0 0 0) := by kernel_rfl
theorem e39_111010 (C : CallF) (s' : ByteArray) (t12' : Int) (b2_b0 : Int) (b2_b1 : Int) (b2_b2 : Int) (parts_b0 : Int) (parts_b1 : Int) (parts_b2 : Int) : R tab C 39 [] [.lp [1, 1, 1, 0, 1, 0]] (S39_111010 s' t12' b2_b0 b2_b1 b2_b2 parts_b0 parts_b1 parts_b2) =
  bif (ltI t12' (6 : Int)) then
    bif ((leI (0 : Int) (IntKind.i64.wrap (t12' + (1 : Int)))) && (ltI (IntKind.i64.wrap (t12' + (1 : Int))) (s'.size : Int))) then (C 78 [.p (.list false [.int .u8] [.int .u8 48, .int .u8 49, .int .u8 50, .int .u8 51, .int .u8 52, .int .u8 53, .int .u8 54, .int .u8 55, .int .u8 56, .int .u8 57, .int .u8 97, .int .u8 98, .int .u8 99, .int .u8 100, .int .u8 101, .int .u8 102]), .p (.int .u8 ((s'.data.getD ((IntKind.i64.wrap (t12' + (1 : Int))).toNat) 0).toNat : Int))] []).bind fun r1 =>
    bif (ltI ((r1.1.headD .undef).pv.toInt) (0 : Int)) then
      some ([.p (.agg [.int .u8 0, .int .u8 0, .int .u8 0]), .p (.int .i64 6)], [])
    else
      bif ((leI (0 : Int) (IntKind.i64.wrap (t12'.tdiv (2 : Int)))) && (ltI (IntKind.i64.wrap (t12'.tdiv (2 : Int))) (3 : Int))) then bif (eqI (IntKind.i64.wrap (t12'.tdiv (2 : Int))) 0) then
        bif ((leI (0 : Int) (IntKind.i64.wrap (t12'.tdiv (2 : Int)))) && (ltI (IntKind.i64.wrap (t12'.tdiv (2 : Int))) (3 : Int))) then bif (eqI (IntKind.i64.wrap (t12'.tdiv (2 : Int))) 0) then
          L tab C 39 [] [.lp [1, 1, 1, 0, 1, 0]] (S39_111010 s' (IntKind.i64.wrap (t12' + (1 : Int))) b2_b0 b2_b1 b2_b2 (IntKind.u8.wrap ((IntKind.u8.wrap (parts_b0 * (16 : Int))) + (IntKind.u8.wrap ((r1.1.headD .undef).pv.toInt)))) parts_b1 parts_b2)
        else
          bif (eqI (IntKind.i64.wrap (t12'.tdiv (2 : Int))) 1) then
            L tab C 39 [] [.lp [1, 1, 1, 0, 1, 0]] (S39_111010 s' (IntKind.i64.wrap (t12' + (1 : Int))) b2_b0 b2_b1 b2_b2 parts_b0 (IntKind.u8.wrap ((IntKind.u8.wrap (parts_b0 * (16 : Int))) + (IntKind.u8.wrap ((r1.1.headD .undef).pv.toInt)))) parts_b2)
          else
            bif (eqI (IntKind.i64.wrap (t12'.tdiv (2 : Int))) 2) then L tab C 39 [] [.lp [1, 1, 1, 0, 1, 0]] (S39_111010 s' (IntKind.i64.wrap (t12' + (1 : Int))) b2_b0 b2_b1 b2_b2 parts_b0 parts_b1 (IntKind.u8.wrap ((IntKind.u8.wrap (parts_b0 * (16 : Int))) + (IntKind.u8.wrap ((r1.1.headD .undef).pv.toInt))))) else none else none
      else
        bif (eqI (IntKind.i64.wrap (t12'.tdiv (2 : Int))) 1) then
          bif ((leI (0 : Int) (IntKind.i64.wrap (t12'.tdiv (2 : Int)))) && (ltI (IntKind.i64.wrap (t12'.tdiv (2 : Int))) (3 : Int))) then bif (eqI (IntKind.i64.wrap (t12'.tdiv (2 : Int))) 0) then
            L tab C 39 [] [.lp [1, 1, 1, 0, 1, 0]] (S39_111010 s' (IntKind.i64.wrap (t12' + (1 : Int))) b2_b0 b2_b1 b2_b2 (IntKind.u8.wrap ((IntKind.u8.wrap (parts_b1 * (16 : Int))) + (IntKind.u8.wrap ((r1.1.headD .undef).pv.toInt)))) parts_b1 parts_b2)
          else
            bif (eqI (IntKind.i64.wrap (t12'.tdiv (2 : Int))) 1) then
              L tab C 39 [] [.lp [1, 1, 1, 0, 1, 0]] (S39_111010 s' (IntKind.i64.wrap (t12' + (1 : Int))) b2_b0 b2_b1 b2_b2 parts_b0 (IntKind.u8.wrap ((IntKind.u8.wrap (parts_b1 * (16 : Int))) + (IntKind.u8.wrap ((r1.1.headD .undef).pv.toInt)))) parts_b2)
            else
              bif (eqI (IntKind.i64.wrap (t12'.tdiv (2 : Int))) 2) then L tab C 39 [] [.lp [1, 1, 1, 0, 1, 0]] (S39_111010 s' (IntKind.i64.wrap (t12' + (1 : Int))) b2_b0 b2_b1 b2_b2 parts_b0 parts_b1 (IntKind.u8.wrap ((IntKind.u8.wrap (parts_b1 * (16 : Int))) + (IntKind.u8.wrap ((r1.1.headD .undef).pv.toInt))))) else none else none
        else
          bif (eqI (IntKind.i64.wrap (t12'.tdiv (2 : Int))) 2) then bif ((leI (0 : Int) (IntKind.i64.wrap (t12'.tdiv (2 : Int)))) && (ltI (IntKind.i64.wrap (t12'.tdiv (2 : Int))) (3 : Int))) then bif (eqI (IntKind.i64.wrap (t12'.tdiv (2 : Int))) 0) then
            L tab C 39 [] [.lp [1, 1, 1, 0, 1, 0]] (S39_111010 s' (IntKind.i64.wrap (t12' + (1 : Int))) b2_b0 b2_b1 b2_b2 (IntKind.u8.wrap ((IntKind.u8.wrap (parts_b2 * (16 : Int))) + (IntKind.u8.wrap ((r1.1.headD .undef).pv.toInt)))) parts_b1 parts_b2)
          else
            bif (eqI (IntKind.i64.wrap (t12'.tdiv (2 : Int))) 1) then
              L tab C 39 [] [.lp [1, 1, 1, 0, 1, 0]] (S39_111010 s' (IntKind.i64.wrap (t12' + (1 : Int))) b2_b0 b2_b1 b2_b2 parts_b0 (IntKind.u8.wrap ((IntKind.u8.wrap (parts_b2 * (16 : Int))) + (IntKind.u8.wrap ((r1.1.headD .undef).pv.toInt)))) parts_b2)
            else
              bif (eqI (IntKind.i64.wrap (t12'.tdiv (2 : Int))) 2) then L tab C 39 [] [.lp [1, 1, 1, 0, 1, 0]] (S39_111010 s' (IntKind.i64.wrap (t12' + (1 : Int))) b2_b0 b2_b1 b2_b2 parts_b0 parts_b1 (IntKind.u8.wrap ((IntKind.u8.wrap (parts_b2 * (16 : Int))) + (IntKind.u8.wrap ((r1.1.headD .undef).pv.toInt))))) else none else none else none else none else none
  else
    (C 72 [.p (.agg [.int .u8 parts_b0, .int .u8 parts_b1, .int .u8 parts_b2])] []).bind fun r2 =>
    bif (!(((r2.1.headD .undef).pv.toStr).toList == s'.toList)) then
      some ([.p (.agg [.int .u8 0, .int .u8 0, .int .u8 0]), .p (.int .i64 6)], [])
    else
      some ([.p (.agg [.int .u8 parts_b0, .int .u8 parts_b1, .int .u8 parts_b2]), .p (.int .i64 0)], []) := by kernel_rfl
theorem e43 (C : CallF) (a_0 : Int) (a_1 : Int) (a_2 : ByteArray) (a_3 : Int) (a_4 : Int) (a_5 : Int) (b_0 : Int) (b_1 : Int) (b_2 : ByteArray) (b_3 : Int) (b_4 : Int) (b_5 : Int) : acallI tab C 43 [.p (.agg [.int .i64 a_0, .int .i64 a_1, .str a_2, .int .u8 a_3, .int .u8 a_4, .int .u8 a_5]), .p (.agg [.int .i64 b_0, .int .i64 b_1, .str b_2, .int .u8 b_3, .int .u8 b_4, .int .u8 b_5])] [] =
  bif (ltI a_0 b_0) then
    some ([.p (.bool true)], [])
  else
    bif (a_0 == b_0) then
      some ([.p (.bool (bytesLt a_2.toList b_2.toList))], [])
    else
      some ([.p (.bool false)], []) := by kernel_rfl
theorem e44 (C : CallF) (n_ : Int) : acallI tab C 44 [.p (.int .i64 n_)] [] =
  bif (geI n_ (0 : Int)) then
    some ([.p (.bool (leI n_ (3600000 : Int)))], [])
  else
    some ([.p (.bool false)], []) := by kernel_rfl
def S45_11010 (s' : ByteArray) (i' : Int) : St := ⟨(.p (.str s')) :: .undef :: .undef :: (.p (.int .i64 i')) :: List.replicate 70 .undef, []⟩
theorem e45 (C : CallF) (s : ByteArray) : acallI tab C 45 [.p (.str s)] [] =
  bif (ltI ((s.size : Nat) : Int) (1 : Int)) then
    some ([.p (.bool false)], [])
  else
    bif (gtI ((s.size : Nat) : Int) (32 : Int)) then
      some ([.p (.bool false)], [])
    else
      L tab C 45 [] [.lp [1, 1, 0, 1, 0]] (S45_11010 s 0) := by kernel_rfl
theorem e45_11010 (C : CallF) (s' : ByteArray) (i' : Int) : R tab C 45 [] [.lp [1, 1, 0, 1, 0]] (S45_11010 s' i') =
  bif (ltI i' ((s'.size : Nat) : Int)) then
    bif ((leI (0 : Int) i') && (ltI i' (s'.size : Int))) then bif (geI ((s'.data.getD i'.toNat 0).toNat : Int) (97 : Int)) then
      bif ((leI (0 : Int) i') && (ltI i' (s'.size : Int))) then bif (leI ((s'.data.getD i'.toNat 0).toNat : Int) (122 : Int)) then
        bif ((leI (0 : Int) i') && (ltI i' (s'.size : Int))) then bif (geI ((s'.data.getD i'.toNat 0).toNat : Int) (48 : Int)) then
          bif ((leI (0 : Int) i') && (ltI i' (s'.size : Int))) then bif (leI ((s'.data.getD i'.toNat 0).toNat : Int) (57 : Int)) then
            L tab C 45 [] [.lp [1, 1, 0, 1, 0]] (S45_11010 s' (IntKind.i64.wrap (i' + (1 : Int))))
          else
            bif ((leI (0 : Int) i') && (ltI i' (s'.size : Int))) then bif (((s'.data.getD i'.toNat 0).toNat : Int) == (45 : Int)) then
              L tab C 45 [] [.lp [1, 1, 0, 1, 0]] (S45_11010 s' (IntKind.i64.wrap (i' + (1 : Int))))
            else
              bif ((leI (0 : Int) i') && (ltI i' (s'.size : Int))) then L tab C 45 [] [.lp [1, 1, 0, 1, 0]] (S45_11010 s' (IntKind.i64.wrap (i' + (1 : Int)))) else none else none else none
        else
          bif ((leI (0 : Int) i') && (ltI i' (s'.size : Int))) then bif (((s'.data.getD i'.toNat 0).toNat : Int) == (45 : Int)) then
            L tab C 45 [] [.lp [1, 1, 0, 1, 0]] (S45_11010 s' (IntKind.i64.wrap (i' + (1 : Int))))
          else
            bif ((leI (0 : Int) i') && (ltI i' (s'.size : Int))) then L tab C 45 [] [.lp [1, 1, 0, 1, 0]] (S45_11010 s' (IntKind.i64.wrap (i' + (1 : Int)))) else none else none else none
      else
        bif ((leI (0 : Int) i') && (ltI i' (s'.size : Int))) then bif (geI ((s'.data.getD i'.toNat 0).toNat : Int) (65 : Int)) then
          bif ((leI (0 : Int) i') && (ltI i' (s'.size : Int))) then bif ((leI (0 : Int) i') && (ltI i' (s'.size : Int))) then bif (geI ((s'.data.getD i'.toNat 0).toNat : Int) (48 : Int)) then
            bif ((leI (0 : Int) i') && (ltI i' (s'.size : Int))) then bif (leI ((s'.data.getD i'.toNat 0).toNat : Int) (57 : Int)) then
              bif (!(leI ((s'.data.getD i'.toNat 0).toNat : Int) (90 : Int))) then
                bif (i' == (0 : Int)) then
                  some ([.p (.bool false)], [])
                else
                  L tab C 45 [] [.lp [1, 1, 0, 1, 0]] (S45_11010 s' (IntKind.i64.wrap (i' + (1 : Int))))
              else
                L tab C 45 [] [.lp [1, 1, 0, 1, 0]] (S45_11010 s' (IntKind.i64.wrap (i' + (1 : Int))))
            else
              bif ((leI (0 : Int) i') && (ltI i' (s'.size : Int))) then bif (((s'.data.getD i'.toNat 0).toNat : Int) == (45 : Int)) then
                bif (!(leI ((s'.data.getD i'.toNat 0).toNat : Int) (90 : Int))) then
                  bif (i' == (0 : Int)) then
                    some ([.p (.bool false)], [])
                  else
                    L tab C 45 [] [.lp [1, 1, 0, 1, 0]] (S45_11010 s' (IntKind.i64.wrap (i' + (1 : Int))))
                else
                  L tab C 45 [] [.lp [1, 1, 0, 1, 0]] (S45_11010 s' (IntKind.i64.wrap (i' + (1 : Int))))
              else
                bif ((leI (0 : Int) i') && (ltI i' (s'.size : Int))) then bif (!(leI ((s'.data.getD i'.toNat 0).toNat : Int) (90 : Int))) then
                  bif (i' == (0 : Int)) then
                    some ([.p (.bool false)], [])
                  else
                    bif (!(((s'.data.getD i'.toNat 0).toNat : Int) == (95 : Int))) then
                      some ([.p (.bool false)], [])
                    else
                      L tab C 45 [] [.lp [1, 1, 0, 1, 0]] (S45_11010 s' (IntKind.i64.wrap (i' + (1 : Int))))
                else
                  L tab C 45 [] [.lp [1, 1, 0, 1, 0]] (S45_11010 s' (IntKind.i64.wrap (i' + (1 : Int)))) else none else none else none
          else
            bif ((leI (0 : Int) i') && (ltI i' (s'.size : Int))) then bif (((s'.data.getD i'.toNat 0).toNat : Int) == (45 : Int)) then
              bif (!(leI ((s'.data.getD i'.toNat 0).toNat : Int) (90 : Int))) then
                bif (i' == (0 : Int)) then
                  some ([.p (.bool false)], [])
                else
                  L tab C 45 [] [.lp [1, 1, 0, 1, 0]] (S45_11010 s' (IntKind.i64.wrap (i' + (1 : Int))))
              else
                L tab C 45 [] [.lp [1, 1, 0, 1, 0]] (S45_11010 s' (IntKind.i64.wrap (i' + (1 : Int))))
            else
              bif ((leI (0 : Int) i') && (ltI i' (s'.size : Int))) then bif (!(leI ((s'.data.getD i'.toNat 0).toNat : Int) (90 : Int))) then
                bif (i' == (0 : Int)) then
                  some ([.p (.bool false)], [])
                else
                  bif (!(((s'.data.getD i'.toNat 0).toNat : Int) == (95 : Int))) then
                    some ([.p (.bool false)], [])
                  else
                    L tab C 45 [] [.lp [1, 1, 0, 1, 0]] (S45_11010 s' (IntKind.i64.wrap (i' + (1 : Int))))
              else
                L tab C 45 [] [.lp [1, 1, 0, 1, 0]] (S45_11010 s' (IntKind.i64.wrap (i' + (1 : Int)))) else none else none else none else none
        else
          bif ((leI (0 : Int) i') && (ltI i' (s'.size : Int))) then bif (geI ((s'.data.getD i'.toNat 0).toNat : Int) (48 : Int)) then
            bif ((leI (0 : Int) i') && (ltI i' (s'.size : Int))) then bif (leI ((s'.data.getD i'.toNat 0).toNat : Int) (57 : Int)) then
              bif (i' == (0 : Int)) then
                some ([.p (.bool false)], [])
              else
                L tab C 45 [] [.lp [1, 1, 0, 1, 0]] (S45_11010 s' (IntKind.i64.wrap (i' + (1 : Int))))
            else
              bif ((leI (0 : Int) i') && (ltI i' (s'.size : Int))) then bif (((s'.data.getD i'.toNat 0).toNat : Int) == (45 : Int)) then
                bif (i' == (0 : Int)) then
                  some ([.p (.bool false)], [])
                else
                  L tab C 45 [] [.lp [1, 1, 0, 1, 0]] (S45_11010 s' (IntKind.i64.wrap (i' + (1 : Int))))
              else
                bif ((leI (0 : Int) i') && (ltI i' (s'.size : Int))) then bif (i' == (0 : Int)) then
                  some ([.p (.bool false)], [])
                else
                  bif (!(((s'.data.getD i'.toNat 0).toNat : Int) == (95 : Int))) then
                    some ([.p (.bool false)], [])
                  else
                    L tab C 45 [] [.lp [1, 1, 0, 1, 0]] (S45_11010 s' (IntKind.i64.wrap (i' + (1 : Int)))) else none else none else none
          else
            bif ((leI (0 : Int) i') && (ltI i' (s'.size : Int))) then bif (((s'.data.getD i'.toNat 0).toNat : Int) == (45 : Int)) then
              bif (i' == (0 : Int)) then
                some ([.p (.bool false)], [])
              else
                L tab C 45 [] [.lp [1, 1, 0, 1, 0]] (S45_11010 s' (IntKind.i64.wrap (i' + (1 : Int))))
            else
              bif ((leI (0 : Int) i') && (ltI i' (s'.size : Int))) then bif (i' == (0 : Int)) then
                some ([.p (.bool false)], [])
              else
                bif (!(((s'.data.getD i'.toNat 0).toNat : Int) == (95 : Int))) then
                  some ([.p (.bool false)], [])
                else
                  L tab C 45 [] [.lp [1, 1, 0, 1, 0]] (S45_11010 s' (IntKind.i64.wrap (i' + (1 : Int)))) else none else none else none else none else none
    else
      bif ((leI (0 : Int) i') && (ltI i' (s'.size : Int))) then bif (geI ((s'.data.getD i'.toNat 0).toNat : Int) (65 : Int)) then
        bif ((leI (0 : Int) i') && (ltI i' (s'.size : Int))) then bif ((leI (0 : Int) i') && (ltI i' (s'.size : Int))) then bif (geI ((s'.data.getD i'.toNat 0).toNat : Int) (48 : Int)) then
          bif ((leI (0 : Int) i') && (ltI i' (s'.size : Int))) then bif (leI ((s'.data.getD i'.toNat 0).toNat : Int) (57 : Int)) then
            bif (!(leI ((s'.data.getD i'.toNat 0).toNat : Int) (90 : Int))) then
              bif (i' == (0 : Int)) then
                some ([.p (.bool false)], [])
              else
                L tab C 45 [] [.lp [1, 1, 0, 1, 0]] (S45_11010 s' (IntKind.i64.wrap (i' + (1 : Int))))
            else
              L tab C 45 [] [.lp [1, 1, 0, 1, 0]] (S45_11010 s' (IntKind.i64.wrap (i' + (1 : Int))))
          else
            bif ((leI (0 : Int) i') && (ltI i' (s'.size : Int))) then bif (((s'.data.getD i'.toNat 0).toNat : Int) == (45 : Int)) then
              bif (!(leI ((s'.data.getD i'.toNat 0).toNat : Int) (90 : Int))) then
                bif (i' == (0 : Int)) then
                  some ([.p (.bool false)], [])
                else
                  L tab C 45 [] [.lp [1, 1, 0, 1, 0]] (S45_11010 s' (IntKind.i64.wrap (i' + (1 : Int))))
              else
                L tab C 45 [] [.lp [1, 1, 0, 1, 0]] (S45_11010 s' (IntKind.i64.wrap (i' + (1 : Int))))
            else
              bif ((leI (0 : Int) i') && (ltI i' (s'.size : Int))) then bif (!(leI ((s'.data.getD i'.toNat 0).toNat : Int) (90 : Int))) then
                bif (i' == (0 : Int)) then
                  some ([.p (.bool false)], [])
                else
                  bif (!(((s'.data.getD i'.toNat 0).toNat : Int) == (95 : Int))) then
                    some ([.p (.bool false)], [])
                  else
                    L tab C 45 [] [.lp [1, 1, 0, 1, 0]] (S45_11010 s' (IntKind.i64.wrap (i' + (1 : Int))))
              else
                L tab C 45 [] [.lp [1, 1, 0, 1, 0]] (S45_11010 s' (IntKind.i64.wrap (i' + (1 : Int)))) else none else none else none
        else
          bif ((leI (0 : Int) i') && (ltI i' (s'.size : Int))) then bif (((s'.data.getD i'.toNat 0).toNat : Int) == (45 : Int)) then
            bif (!(leI ((s'.data.getD i'.toNat 0).toNat : Int) (90 : Int))) then
              bif (i' == (0 : Int)) then
                some ([.p (.bool false)], [])
              else
                L tab C 45 [] [.lp [1, 1, 0, 1, 0]] (S45_11010 s' (IntKind.i64.wrap (i' + (1 : Int))))
            else
              L tab C 45 [] [.lp [1, 1, 0, 1, 0]] (S45_11010 s' (IntKind.i64.wrap (i' + (1 : Int))))
          else
            bif ((leI (0 : Int) i') && (ltI i' (s'.size : Int))) then bif (!(leI ((s'.data.getD i'.toNat 0).toNat : Int) (90 : Int))) then
              bif (i' == (0 : Int)) then
                some ([.p (.bool false)], [])
              else
                bif (!(((s'.data.getD i'.toNat 0).toNat : Int) == (95 : Int))) then
                  some ([.p (.bool false)], [])
                else
                  L tab C 45 [] [.lp [1, 1, 0, 1, 0]] (S45_11010 s' (IntKind.i64.wrap (i' + (1 : Int))))
            else
              L tab C 45 [] [.lp [1, 1, 0, 1, 0]] (S45_11010 s' (IntKind.i64.wrap (i' + (1 : Int)))) else none else none else none else none
      else
        bif ((leI (0 : Int) i') && (ltI i' (s'.size : Int))) then bif (geI ((s'.data.getD i'.toNat 0).toNat : Int) (48 : Int)) then
          bif ((leI (0 : Int) i') && (ltI i' (s'.size : Int))) then bif (leI ((s'.data.getD i'.toNat 0).toNat : Int) (57 : Int)) then
            bif (i' == (0 : Int)) then
              some ([.p (.bool false)], [])
            else
              L tab C 45 [] [.lp [1, 1, 0, 1, 0]] (S45_11010 s' (IntKind.i64.wrap (i' + (1 : Int))))
          else
            bif ((leI (0 : Int) i') && (ltI i' (s'.size : Int))) then bif (((s'.data.getD i'.toNat 0).toNat : Int) == (45 : Int)) then
              bif (i' == (0 : Int)) then
                some ([.p (.bool false)], [])
              else
                L tab C 45 [] [.lp [1, 1, 0, 1, 0]] (S45_11010 s' (IntKind.i64.wrap (i' + (1 : Int))))
            else
              bif ((leI (0 : Int) i') && (ltI i' (s'.size : Int))) then bif (i' == (0 : Int)) then
                some ([.p (.bool false)], [])
              else
                bif (!(((s'.data.getD i'.toNat 0).toNat : Int) == (95 : Int))) then
                  some ([.p (.bool false)], [])
                else
                  L tab C 45 [] [.lp [1, 1, 0, 1, 0]] (S45_11010 s' (IntKind.i64.wrap (i' + (1 : Int)))) else none else none else none
        else
          bif ((leI (0 : Int) i') && (ltI i' (s'.size : Int))) then bif (((s'.data.getD i'.toNat 0).toNat : Int) == (45 : Int)) then
            bif (i' == (0 : Int)) then
              some ([.p (.bool false)], [])
            else
              L tab C 45 [] [.lp [1, 1, 0, 1, 0]] (S45_11010 s' (IntKind.i64.wrap (i' + (1 : Int))))
          else
            bif ((leI (0 : Int) i') && (ltI i' (s'.size : Int))) then bif (i' == (0 : Int)) then
              some ([.p (.bool false)], [])
            else
              bif (!(((s'.data.getD i'.toNat 0).toNat : Int) == (95 : Int))) then
                some ([.p (.bool false)], [])
              else
                L tab C 45 [] [.lp [1, 1, 0, 1, 0]] (S45_11010 s' (IntKind.i64.wrap (i' + (1 : Int)))) else none else none else none else none else none
  else
    some ([.p (.bool true)], []) := by kernel_rfl
def S46_1010 (s' : ByteArray) (t6' : Int) (t7' : Int) : St := ⟨(.p (.str s')) :: .undef :: .undef :: .undef :: .undef :: .undef :: (.p (.int .i64 t6')) :: (.p (.int .i64 t7')) :: List.replicate 48 .undef, []⟩
theorem e46 (C : CallF) (s : ByteArray) : acallI tab C 46 [.p (.str s)] [] =
  L tab C 46 [] [.lp [1, 0, 1, 0]] (S46_1010 s ((s.size : Nat) : Int) 0) := by kernel_rfl
theorem e46_1010 (C : CallF) (s' : ByteArray) (t6' : Int) (t7' : Int) : R tab C 46 [] [.lp [1, 0, 1, 0]] (S46_1010 s' t6' t7') =
  bif (ltI t7' t6') then
    bif ((leI (0 : Int) t7') && (ltI t7' (s'.size : Int))) then bif (geI ((s'.data.getD t7'.toNat 0).toNat : Int) (97 : Int)) then
      bif (leI ((s'.data.getD t7'.toNat 0).toNat : Int) (122 : Int)) then
        L tab C 46 [] [.lp [1, 0, 1, 0]] (S46_1010 s' t6' (IntKind.i64.wrap (t7' + (1 : Int))))
      else
        bif (geI ((s'.data.getD t7'.toNat 0).toNat : Int) (65 : Int)) then
          bif (leI ((s'.data.getD t7'.toNat 0).toNat : Int) (90 : Int)) then
            L tab C 46 [] [.lp [1, 0, 1, 0]] (S46_1010 s' t6' (IntKind.i64.wrap (t7' + (1 : Int))))
          else
            bif (gtI t7' (0 : Int)) then
              bif (geI ((s'.data.getD t7'.toNat 0).toNat : Int) (48 : Int)) then
                bif (leI ((s'.data.getD t7'.toNat 0).toNat : Int) (57 : Int)) then
                  L tab C 46 [] [.lp [1, 0, 1, 0]] (S46_1010 s' t6' (IntKind.i64.wrap (t7' + (1 : Int))))
                else
                  bif (((s'.data.getD t7'.toNat 0).toNat : Int) == (45 : Int)) then
                    L tab C 46 [] [.lp [1, 0, 1, 0]] (S46_1010 s' t6' (IntKind.i64.wrap (t7' + (1 : Int))))
                  else
                    bif (((s'.data.getD t7'.toNat 0).toNat : Int) == (95 : Int)) then
                      L tab C 46 [] [.lp [1, 0, 1, 0]] (S46_1010 s' t6' (IntKind.i64.wrap (t7' + (1 : Int))))
                    else
                      some ([.p (.bool false)], [])
              else
                bif (((s'.data.getD t7'.toNat 0).toNat : Int) == (45 : Int)) then
                  L tab C 46 [] [.lp [1, 0, 1, 0]] (S46_1010 s' t6' (IntKind.i64.wrap (t7' + (1 : Int))))
                else
                  bif (((s'.data.getD t7'.toNat 0).toNat : Int) == (95 : Int)) then
                    L tab C 46 [] [.lp [1, 0, 1, 0]] (S46_1010 s' t6' (IntKind.i64.wrap (t7' + (1 : Int))))
                  else
                    some ([.p (.bool false)], [])
            else
              some ([.p (.bool false)], [])
        else
          bif (gtI t7' (0 : Int)) then
            bif (geI ((s'.data.getD t7'.toNat 0).toNat : Int) (48 : Int)) then
              bif (leI ((s'.data.getD t7'.toNat 0).toNat : Int) (57 : Int)) then
                L tab C 46 [] [.lp [1, 0, 1, 0]] (S46_1010 s' t6' (IntKind.i64.wrap (t7' + (1 : Int))))
              else
                bif (((s'.data.getD t7'.toNat 0).toNat : Int) == (45 : Int)) then
                  L tab C 46 [] [.lp [1, 0, 1, 0]] (S46_1010 s' t6' (IntKind.i64.wrap (t7' + (1 : Int))))
                else
                  bif (((s'.data.getD t7'.toNat 0).toNat : Int) == (95 : Int)) then
                    L tab C 46 [] [.lp [1, 0, 1, 0]] (S46_1010 s' t6' (IntKind.i64.wrap (t7' + (1 : Int))))
                  else
                    some ([.p (.bool false)], [])
            else
              bif (((s'.data.getD t7'.toNat 0).toNat : Int) == (45 : Int)) then
                L tab C 46 [] [.lp [1, 0, 1, 0]] (S46_1010 s' t6' (IntKind.i64.wrap (t7' + (1 : Int))))
              else
                bif (((s'.data.getD t7'.toNat 0).toNat : Int) == (95 : Int)) then
                  L tab C 46 [] [.lp [1, 0, 1, 0]] (S46_1010 s' t6' (IntKind.i64.wrap (t7' + (1 : Int))))
                else
                  some ([.p (.bool false)], [])
          else
            some ([.p (.bool false)], [])
    else
      bif (geI ((s'.data.getD t7'.toNat 0).toNat : Int) (65 : Int)) then
        bif (leI ((s'.data.getD t7'.toNat 0).toNat : Int) (90 : Int)) then
          L tab C 46 [] [.lp [1, 0, 1, 0]] (S46_1010 s' t6' (IntKind.i64.wrap (t7' + (1 : Int))))
        else
          bif (gtI t7' (0 : Int)) then
            bif (geI ((s'.data.getD t7'.toNat 0).toNat : Int) (48 : Int)) then
              bif (leI ((s'.data.getD t7'.toNat 0).toNat : Int) (57 : Int)) then
                L tab C 46 [] [.lp [1, 0, 1, 0]] (S46_1010 s' t6' (IntKind.i64.wrap (t7' + (1 : Int))))
              else
                bif (((s'.data.getD t7'.toNat 0).toNat : Int) == (45 : Int)) then
                  L tab C 46 [] [.lp [1, 0, 1, 0]] (S46_1010 s' t6' (IntKind.i64.wrap (t7' + (1 : Int))))
                else
                  bif (((s'.data.getD t7'.toNat 0).toNat : Int) == (95 : Int)) then
                    L tab C 46 [] [.lp [1, 0, 1, 0]] (S46_1010 s' t6' (IntKind.i64.wrap (t7' + (1 : Int))))
                  else
                    some ([.p (.bool false)], [])
            else
              bif (((s'.data.getD t7'.toNat 0).toNat : Int) == (45 : Int)) then
                L tab C 46 [] [.lp [1, 0, 1, 0]] (S46_1010 s' t6' (IntKind.i64.wrap (t7' + (1 : Int))))
              else
                bif (((s'.data.getD t7'.toNat 0).toNat : Int) == (95 : Int)) then
                  L tab C 46 [] [.lp [1, 0, 1, 0]] (S46_1010 s' t6' (IntKind.i64.wrap (t7' + (1 : Int))))
                else
                  some ([.p (.bool false)], [])
          else
            some ([.p (.bool false)], [])
      else
        bif (gtI t7' (0 : Int)) then
          bif (geI ((s'.data.getD t7'.toNat 0).toNat : Int) (48 : Int)) then
            bif (leI ((s'.data.getD t7'.toNat 0).toNat : Int) (57 : Int)) then
              L tab C 46 [] [.lp [1, 0, 1, 0]] (S46_1010 s' t6' (IntKind.i64.wrap (t7' + (1 : Int))))
            else
              bif (((s'.data.getD t7'.toNat 0).toNat : Int) == (45 : Int)) then
                L tab C 46 [] [.lp [1, 0, 1, 0]] (S46_1010 s' t6' (IntKind.i64.wrap (t7' + (1 : Int))))
              else
                bif (((s'.data.getD t7'.toNat 0).toNat : Int) == (95 : Int)) then
                  L tab C 46 [] [.lp [1, 0, 1, 0]] (S46_1010 s' t6' (IntKind.i64.wrap (t7' + (1 : Int))))
                else
                  some ([.p (.bool false)], [])
          else
            bif (((s'.data.getD t7'.toNat 0).toNat : Int) == (45 : Int)) then
              L tab C 46 [] [.lp [1, 0, 1, 0]] (S46_1010 s' t6' (IntKind.i64.wrap (t7' + (1 : Int))))
            else
              bif (((s'.data.getD t7'.toNat 0).toNat : Int) == (95 : Int)) then
                L tab C 46 [] [.lp [1, 0, 1, 0]] (S46_1010 s' t6' (IntKind.i64.wrap (t7' + (1 : Int))))
              else
                some ([.p (.bool false)], [])
        else
          some ([.p (.bool false)], []) else none
  else
    bif (geI ((s'.size : Nat) : Int) (1 : Int)) then
      some ([.p (.bool (leI ((s'.size : Nat) : Int) (32 : Int)))], [])
    else
      some ([.p (.bool false)], []) := by kernel_rfl
theorem e47 (C : CallF) (n_ : Int) : acallI tab C 47 [.p (.int .i64 n_)] [] =
  bif (leI (0 : Int) n_) then
    some ([.p (.bool (leI n_ (3600000 : Int)))], [])
  else
    some ([.p (.bool false)], []) := by kernel_rfl
theorem e48 (C : CallF) (t : Int) : acallI tab C 48 [.p (.int .i64 t)] [] =
  some ([.p (.agg [.int .u8 0, .int .u8 0, .int .u8 0])], []) := by kernel_rfl
def S49_11010 (group' : ByteArray) (out_o : Nat) (out_l : Nat) (t8' : List PV) (t9' : Int) (t10' : Int) (out_b : List PV) : St := ⟨.undef :: (.p (.str group')) :: .undef :: .undef :: .undef :: (.slice 5 6 out_o out_l) :: .undef :: .undef :: (.p (.list true [.int .i64, .int .i64, .str, .int .u8, .int .u8, .int .u8] t8')) :: (.p (.int .i64 t9')) :: (.p (.int .i64 t10')) :: List.replicate 13 .undef, [(5, .arr true [.int .i64, .int .i64, .str, .int .u8, .int .u8, .int .u8] out_b)]⟩
theorem e49 (C : CallF) (l : List PV) (group : ByteArray) : acallI tab C 49 [.p (.list true [.int .i64, .int .i64, .str, .int .u8, .int .u8, .int .u8] l), .p (.str group)] [] =
  L tab C 49 [] [.lp [1, 1, 0, 1, 0]] (S49_11010 group 0 0 l ((l.length : Nat) : Int) 0 []) := by kernel_rfl
theorem e49_11010 (C : CallF) (group' : ByteArray) (out_o : Nat) (out_l : Nat) (t8' : List PV) (t9' : Int) (t10' : Int) (out_b : List PV) : R tab C 49 [] [.lp [1, 1, 0, 1, 0]] (S49_11010 group' out_o out_l t8' t9' t10' out_b) =
  bif (ltI t10' t9') then
    bif ((leI (0 : Int) t10') && (ltI t10' ((t8'.length : Nat) : Int))) then bif ((((t8'.getD t10'.toNat .nil).cell 2).toStr).toList == group'.toList) then
      bif (leN (out_l + 1) 2147483648) then L tab C 49 [] [.lp [1, 1, 0, 1, 0]] (S49_11010 group' 0 (out_l + 1) t8' t9' (IntKind.i64.wrap (t10' + (1 : Int))) (((out_b.drop out_o).take out_l) ++ ([.agg [.int .i64 (((t8'.getD t10'.toNat .nil).cell 0).toInt), .int .i64 (((t8'.getD t10'.toNat .nil).cell 1).toInt), .str (((t8'.getD t10'.toNat .nil).cell 2).toStr), .int .u8 (((t8'.getD t10'.toNat .nil).cell 3).toInt), .int .u8 (((t8'.getD t10'.toNat .nil).cell 4).toInt), .int .u8 (((t8'.getD t10'.toNat .nil).cell 5).toInt)]] : List PV))) else none
    else
      L tab C 49 [] [.lp [1, 1, 0, 1, 0]] (S49_11010 group' out_o out_l t8' t9' (IntKind.i64.wrap (t10' + (1 : Int))) out_b) else none
  else
    some ([.fresh true [.int .i64, .int .i64, .str, .int .u8, .int .u8, .int .u8] ((out_b.drop out_o).take out_l)], []) := by kernel_rfl
theorem e50 (C : CallF) (t : Int) (c0_0 : Int) (c0_1 : Int) (c0_2 : ByteArray) (c0_3 : Int) (c0_4 : Int) (c0_5 : Int) (c1_0 : Int) (c1_1 : Int) (c1_2 : Int) : acallI tab C 50 [.p (.int .i64 t), .p (.ref [.int .i64 c0_0, .int .i64 c0_1, .str c0_2, .int .u8 c0_3, .int .u8 c0_4, .int .u8 c0_5]), .p (.ref [.int .u8 c1_0, .int .u8 c1_1, .int .u8 c1_2])] [] =
  bif (geI t (IntKind.i64.wrap (c0_0 + c0_1))) then
    some ([.p (.agg [.int .u8 c0_3, .int .u8 c0_4, .int .u8 c0_5])], [])
  else
    (C 51 [.p (.agg [.int .u8 c1_0, .int .u8 c1_1, .int .u8 c1_2]), .p (.agg [.int .u8 c0_3, .int .u8 c0_4, .int .u8 c0_5]), .p (.int .i64 (IntKind.i64.wrap (t - c0_0))), .p (.int .i64 c0_1)] []).bind fun r1 =>
    some ([.p (.agg [.int .u8 (((r1.1.headD .undef).pv.cell 0).toInt), .int .u8 (((r1.1.headD .undef).pv.cell 1).toInt), .int .u8 (((r1.1.headD .undef).pv.cell 2).toInt)])], []) := by kernel_rfl
theorem e51 (C : CallF) (a_0 : Int) (a_1 : Int) (a_2 : Int) (b_0 : Int) (b_1 : Int) (b_2 : Int) (num : Int) (den : Int) : acallI tab C 51 [.p (.agg [.int .u8 a_0, .int .u8 a_1, .int .u8 a_2]), .p (.agg [.int .u8 b_0, .int .u8 b_1, .int .u8 b_2]), .p (.int .i64 num), .p (.int .i64 den)] [] =
  bif (ltI den (1 : Int)) then
    some ([.p (.agg [.int .u8 0, .int .u8 0, .int .u8 0]), .p (.int .i64 2)], [])
  else
    bif (gtI den (3600000 : Int)) then
      some ([.p (.agg [.int .u8 0, .int .u8 0, .int .u8 0]), .p (.int .i64 2)], [])
    else
      bif (ltI num (0 : Int)) then
        some ([.p (.agg [.int .u8 0, .int .u8 0, .int .u8 0]), .p (.int .i64 2)], [])
      else
        bif (gtI num den) then
          some ([.p (.agg [.int .u8 0, .int .u8 0, .int .u8 0]), .p (.int .i64 2)], [])
        else
          (C 80 [.p (.int .u8 a_0), .p (.int .u8 b_0), .p (.int .i64 num), .p (.int .i64 den)] []).bind fun r1 =>
          (C 80 [.p (.int .u8 a_1), .p (.int .u8 b_1), .p (.int .i64 num), .p (.int .i64 den)] []).bind fun r2 =>
          (C 80 [.p (.int .u8 a_2), .p (.int .u8 b_2), .p (.int .i64 num), .p (.int .i64 den)] []).bind fun r3 =>
          some ([.p (.agg [.int .u8 ((r1.1.headD .undef).pv.toInt), .int .u8 ((r2.1.headD .undef).pv.toInt), .int .u8 ((r3.1.headD .undef).pv.toInt)]), .p (.int .i64 0)], []) := by kernel_rfl
theorem e52 (C : CallF) (c_0 : Int) (c_1 : Int) (c_2 : ByteArray) (c_3 : Int) (c_4 : Int) (c_5 : Int) : acallI tab C 52 [.p (.agg [.int .i64 c_0, .int .i64 c_1, .str c_2, .int .u8 c_3, .int .u8 c_4, .int .u8 c_5])] [] =
  (C 47 [.p (.int .i64 c_0)] []).bind fun r1 =>
  bif (r1.1.headD .undef).pv.toBool then
    (C 47 [.p (.int .i64 c_1)] []).bind fun r2 =>
    bif (r2.1.headD .undef).pv.toBool then
      (C 46 [.p (.str c_2)] []).bind fun r3 =>
      some ([.p (.bool ((r3.1.headD .undef).pv.toBool))], [])
    else
      some ([.p (.bool false)], [])
  else
    some ([.p (.bool false)], []) := by kernel_rfl
def S53_11100 (x' : List PV) (n_' : Int) (i' : Int) (j' : Int) (target_b0 : Int) (target_b1 : Int) (target_b2 : ByteArray) (target_b3 : Int) (target_b4 : Int) (target_b5 : Int) : St := ⟨(.p (.list true [.int .i64, .int .i64, .str, .int .u8, .int .u8, .int .u8] x')) :: .undef :: (.p (.fn 54 [])) :: .undef :: (.ptr 4 0 0) :: .undef :: .undef :: .undef :: (.p (.int .i64 n_')) :: (.p (.int .i64 i')) :: (.p (.int .i64 j')) :: List.replicate 38 .undef, [(4, .box [.p (.int .i64 target_b0), .p (.int .i64 target_b1), .p (.str target_b2), .p (.int .u8 target_b3), .p (.int .u8 target_b4), .p (.int .u8 target_b5)])]⟩
theorem e53 (C : CallF) (x : List PV) (target_0 : Int) (target_1 : Int) (target_2 : ByteArray) (target_3 : Int) (target_4 : Int) (target_5 : Int) : acallI tab C 53 [.p (.list true [.int .i64, .int .i64, .str, .int .u8, .int .u8, .int .u8] x), .p (.agg [.int .i64 target_0, .int .i64 target_1, .str target_2, .int .u8 target_3, .int .u8 target_4, .int .u8 target_5]), .p (.fn 54 [])] [] =
  L tab C 53 [] [.lp [1, 1, 1, 0, 0]] (S53_11100 x ((x.length : Nat) : Int) 0 ((x.length : Nat) : Int) target_0 target_1 target_2 target_3 target_4 target_5) := by kernel_rfl
theorem e53_11100 (C : CallF) (x' : List PV) (n_' : Int) (i' : Int) (j' : Int) (target_b0 : Int) (target_b1 : Int) (target_b2 : ByteArray) (target_b3 : Int) (target_b4 : Int) (target_b5 : Int) : R tab C 53 [] [.lp [1, 1, 1, 0, 0]] (S53_11100 x' n_' i' j' target_b0 target_b1 target_b2 target_b3 target_b4 target_b5) =
  bif (ltI i' j') then
    bif ((leI (0 : Int) (IntKind.i64.wrap ((IntKind.u64.wrap (IntKind.i64.wrap (i' + j'))).fdiv (2 ^ 1)))) && (ltI (IntKind.i64.wrap ((IntKind.u64.wrap (IntKind.i64.wrap (i' + j'))).fdiv (2 ^ 1))) ((x'.length : Nat) : Int))) then (C 54 [.p (.agg [.int .i64 (((x'.getD ((IntKind.i64.wrap ((IntKind.u64.wrap (IntKind.i64.wrap (i' + j'))).fdiv (2 ^ 1))).toNat) .nil).cell 0).toInt), .int .i64 (((x'.getD ((IntKind.i64.wrap ((IntKind.u64.wrap (IntKind.i64.wrap (i' + j'))).fdiv (2 ^ 1))).toNat) .nil).cell 1).toInt), .str (((x'.getD ((IntKind.i64.wrap ((IntKind.u64.wrap (IntKind.i64.wrap (i' + j'))).fdiv (2 ^ 1))).toNat) .nil).cell 2).toStr), .int .u8 (((x'.getD ((IntKind.i64.wrap ((IntKind.u64.wrap (IntKind.i64.wrap (i' + j'))).fdiv (2 ^ 1))).toNat) .nil).cell 3).toInt), .int .u8 (((x'.getD ((IntKind.i64.wrap ((IntKind.u64.wrap (IntKind.i64.wrap (i' + j'))).fdiv (2 ^ 1))).toNat) .nil).cell 4).toInt), .int .u8 (((x'.getD ((IntKind.i64.wrap ((IntKind.u64.wrap (IntKind.i64.wrap (i' + j'))).fdiv (2 ^ 1))).toNat) .nil).cell 5).toInt)]), .p (.agg [.int .i64 target_b0, .int .i64 target_b1, .str target_b2, .int .u8 target_b3, .int .u8 target_b4, .int .u8 target_b5])] []).bind fun r1 =>
    bif (ltI ((r1.1.headD .undef).pv.toInt) (0 : Int)) then
      L tab C 53 [] [.lp [1, 1, 1, 0, 0]] (S53_11100 x' n_' (IntKind.i64.wrap ((IntKind.i64.wrap ((IntKind.u64.wrap (IntKind.i64.wrap (i' + j'))).fdiv (2 ^ 1))) + (1 : Int))) j' target_b0 target_b1 target_b2 target_b3 target_b4 target_b5)
    else
      L tab C 53 [] [.lp [1, 1, 1, 0, 0]] (S53_11100 x' n_' i' (IntKind.i64.wrap ((IntKind.u64.wrap (IntKind.i64.wrap (i' + j'))).fdiv (2 ^ 1))) target_b0 target_b1 target_b2 target_b3 target_b4 target_b5) else none
  else
    bif (ltI i' n_') then
      bif ((leI (0 : Int) i') && (ltI i' ((x'.length : Nat) : Int))) then (C 54 [.p (.agg [.int .i64 (((x'.getD i'.toNat .nil).cell 0).toInt), .int .i64 (((x'.getD i'.toNat .nil).cell 1).toInt), .str (((x'.getD i'.toNat .nil).cell 2).toStr), .int .u8 (((x'.getD i'.toNat .nil).cell 3).toInt), .int .u8 (((x'.getD i'.toNat .nil).cell 4).toInt), .int .u8 (((x'.getD i'.toNat .nil).cell 5).toInt)]), .p (.agg [.int .i64 target_b0, .int .i64 target_b1, .str target_b2, .int .u8 target_b3, .int .u8 target_b4, .int .u8 target_b5])] []).bind fun r2 =>
      some ([.p (.int .i64 i'), .p (.bool ((r2.1.headD .undef).pv.toInt == (0 : Int)))], []) else none
    else
      some ([.p (.int .i64 i'), .p (.bool false)], []) := by kernel_rfl
theorem e54 (C : CallF) (a_0 : Int) (a_1 : Int) (a_2 : ByteArray) (a_3 : Int) (a_4 : Int) (a_5 : Int) (b_0 : Int) (b_1 : Int) (b_2 : ByteArray) (b_3 : Int) (b_4 : Int) (b_5 : Int) : acallI tab C 54 [.p (.agg [.int .i64 a_0, .int .i64 a_1, .str a_2, .int .u8 a_3, .int .u8 a_4, .int .u8 a_5]), .p (.agg [.int .i64 b_0, .int .i64 b_1, .str b_2, .int .u8 b_3, .int .u8 b_4, .int .u8 b_5])] [] =
  (C 82 [.p (.int .i64 a_0), .p (.int .i64 b_0)] []).bind fun r1 =>
  (C 83 [.p (.str a_2), .p (.str b_2)] []).bind fun r2 =>
  (C 81 [.p (.list false [.int .i64] [.int .i64 ((r1.1.headD .undef).pv.toInt), .int .i64 ((r2.1.headD .undef).pv.toInt)])] []).bind fun r3 =>
  some ([.p (.int .i64 ((r3.1.headD .undef).pv.toInt))], []) := by kernel_rfl
theorem e55 (C : CallF) (s : List PV) : acallI tab C 55 [.p (.list true [.int .i64, .int .i64, .str, .int .u8, .int .u8, .int .u8] s)] [] =
  bif (Nat.blt 0 s.length) then bif (leN (0 + s.length) 2147483648) then some ([.fresh true [.int .i64, .int .i64, .str, .int .u8, .int .u8, .int .u8] (((([] : List PV) ++ s).drop 0).take (0 + s.length))], []) else none else none := by kernel_rfl
def S56_111010 (l' : List PV) (out_o : Nat) (out_l : Nat) (done' : Bool) (i' : Int) (c_b0 : Int) (c_b1 : Int) (c_b2 : ByteArray) (c_b3 : Int) (c_b4 : Int) (c_b5 : Int) (out_b : List PV) : St := ⟨(.p (.list true [.int .i64, .int .i64, .str, .int .u8, .int .u8, .int .u8] l')) :: .undef :: .undef :: (.ptr 3 0 0) :: .undef :: .undef :: (.slice 6 6 out_o out_l) :: (.p (.bool done')) :: (.p (.int .i64 i')) :: List.replicate 52 .undef, [(3, .box [.p (.int .i64 c_b0), .p (.int .i64 c_b1), .p (.str c_b2), .p (.int .u8 c_b3), .p (.int .u8 c_b4), .p (.int .u8 c_b5)]), (6, .arr true [.int .i64, .int .i64, .str, .int .u8, .int .u8, .int .u8] out_b)]⟩
theorem e56 (C : CallF) (l : List PV) (c_0 : Int) (c_1 : Int) (c_2 : ByteArray) (c_3 : Int) (c_4 : Int) (c_5 : Int) : acallI tab C 56 [.p (.list true [.int .i64, .int .i64, .str, .int .u8, .int .u8, .int .u8] l), .p (.agg [.int .i64 c_0, .int .i64 c_1, .str c_2, .int .u8 c_3, .int .u8 c_4, .int .u8 c_5])] [] =
  L tab C 56 [] [.lp [1, 1, 1, 0, 1, 0]] (S56_111010 l 0 0 false 0 c_0 c_1 c_2 c_3 c_4 c_5 []) := by kernel_rfl
theorem e56_111010 (C : CallF) (l' : List PV) (out_o : Nat) (out_l : Nat) (done' : Bool) (i' : Int) (c_b0 : Int) (c_b1 : Int) (c_b2 : ByteArray) (c_b3 : Int) (c_b4 : Int) (c_b5 : Int) (out_b : List PV) : R tab C 56 [] [.lp [1, 1, 1, 0, 1, 0]] (S56_111010 l' out_o out_l done' i' c_b0 c_b1 c_b2 c_b3 c_b4 c_b5 out_b) =
  bif (ltI i' ((l'.length : Nat) : Int)) then
    bif ((leI (0 : Int) i') && (ltI i' ((l'.length : Nat) : Int))) then bif (((l'.getD i'.toNat .nil).cell 0).toInt == c_b0) then
      bif ((leI (0 : Int) i') && (ltI i' ((l'.length : Nat) : Int))) then bif ((((l'.getD i'.toNat .nil).cell 2).toStr).toList == c_b2.toList) then
        some ([.fresh true [.int .i64, .int .i64, .str, .int .u8, .int .u8, .int .u8] [], .p (.bool false)], [])
      else
        bif (!done') then
          bif ((leI (0 : Int) i') && (ltI i' ((l'.length : Nat) : Int))) then (C 43 [.p (.agg [.int .i64 c_b0, .int .i64 c_b1, .str c_b2, .int .u8 c_b3, .int .u8 c_b4, .int .u8 c_b5]), .p (.agg [.int .i64 (((l'.getD i'.toNat .nil).cell 0).toInt), .int .i64 (((l'.getD i'.toNat .nil).cell 1).toInt), .str (((l'.getD i'.toNat .nil).cell 2).toStr), .int .u8 (((l'.getD i'.toNat .nil).cell 3).toInt), .int .u8 (((l'.getD i'.toNat .nil).cell 4).toInt), .int .u8 (((l'.getD i'.toNat .nil).cell 5).toInt)])] []).bind fun r1 =>
          bif (r1.1.headD .undef).pv.toBool then
            bif (leN (out_l + 1) 2147483648) then bif ((leI (0 : Int) i') && (ltI i' ((l'.length : Nat) : Int))) then bif (leN ((out_l + 1) + 1) 2147483648) then L tab C 56 [] [.lp [1, 1, 1, 0, 1, 0]] (S56_111010 l' 0 ((out_l + 1) + 1) true (IntKind.i64.wrap (i' + (1 : Int))) c_b0 c_b1 c_b2 c_b3 c_b4 c_b5 ((((((out_b.drop out_o).take out_l) ++ ([.agg [.int .i64 c_b0, .int .i64 c_b1, .str c_b2, .int .u8 c_b3, .int .u8 c_b4, .int .u8 c_b5]] : List PV)).drop 0).take (out_l + 1)) ++ ([.agg [.int .i64 (((l'.getD i'.toNat .nil).cell 0).toInt), .int .i64 (((l'.getD i'.toNat .nil).cell 1).toInt), .str (((l'.getD i'.toNat .nil).cell 2).toStr), .int .u8 (((l'.getD i'.toNat .nil).cell 3).toInt), .int .u8 (((l'.getD i'.toNat .nil).cell 4).toInt), .int .u8 (((l'.getD i'.toNat .nil).cell 5).toInt)]] : List PV))) else none else none else none
          else
            bif ((leI (0 : Int) i') && (ltI i' ((l'.length : Nat) : Int))) then bif (leN (out_l + 1) 2147483648) then L tab C 56 [] [.lp [1, 1, 1, 0, 1, 0]] (S56_111010 l' 0 (out_l + 1) done' (IntKind.i64.wrap (i' + (1 : Int))) c_b0 c_b1 c_b2 c_b3 c_b4 c_b5 (((out_b.drop out_o).take out_l) ++ ([.agg [.int .i64 (((l'.getD i'.toNat .nil).cell 0).toInt), .int .i64 (((l'.getD i'.toNat .nil).cell 1).toInt), .str (((l'.getD i'.toNat .nil).cell 2).toStr), .int .u8 (((l'.getD i'.toNat .nil).cell 3).toInt), .int .u8 (((l'.getD i'.toNat .nil).cell 4).toInt), .int .u8 (((l'.getD i'.toNat .nil).cell 5).toInt)]] : List PV))) else none else none else none
        else
          bif ((leI (0 : Int) i') && (ltI i' ((l'.length : Nat) : Int))) then bif (leN (out_l + 1) 2147483648) then L tab C 56 [] [.lp [1, 1, 1, 0, 1, 0]] (S56_111010 l' 0 (out_l + 1) done' (IntKind.i64.wrap (i' + (1 : Int))) c_b0 c_b1 c_b2 c_b3 c_b4 c_b5 (((out_b.drop out_o).take out_l) ++ ([.agg [.int .i64 (((l'.getD i'.toNat .nil).cell 0).toInt), .int .i64 (((l'.getD i'.toNat .nil).cell 1).toInt), .str (((l'.getD i'.toNat .nil).cell 2).toStr), .int .u8 (((l'.getD i'.toNat .nil).cell 3).toInt), .int .u8 (((l'.getD i'.toNat .nil).cell 4).toInt), .int .u8 (((l'.getD i'.toNat .nil).cell 5).toInt)]] : List PV))) else none else none else none
    else
      bif (!done') then
        bif ((leI (0 : Int) i') && (ltI i' ((l'.length : Nat) : Int))) then (C 43 [.p (.agg [.int .i64 c_b0, .int .i64 c_b1, .str c_b2, .int .u8 c_b3, .int .u8 c_b4, .int .u8 c_b5]), .p (.agg [.int .i64 (((l'.getD i'.toNat .nil).cell 0).toInt), .int .i64 (((l'.getD i'.toNat .nil).cell 1).toInt), .str (((l'.getD i'.toNat .nil).cell 2).toStr), .int .u8 (((l'.getD i'.toNat .nil).cell 3).toInt), .int .u8 (((l'.getD i'.toNat .nil).cell 4).toInt), .int .u8 (((l'.getD i'.toNat .nil).cell 5).toInt)])] []).bind fun r2 =>
        bif (r2.1.headD .undef).pv.toBool then
          bif (leN (out_l + 1) 2147483648) then bif ((leI (0 : Int) i') && (ltI i' ((l'.length : Nat) : Int))) then bif (leN ((out_l + 1) + 1) 2147483648) then L tab C 56 [] [.lp [1, 1, 1, 0, 1, 0]] (S56_111010 l' 0 ((out_l + 1) + 1) true (IntKind.i64.wrap (i' + (1 : Int))) c_b0 c_b1 c_b2 c_b3 c_b4 c_b5 ((((((out_b.drop out_o).take out_l) ++ ([.agg [.int .i64 c_b0, .int .i64 c_b1, .str c_b2, .int .u8 c_b3, .int .u8 c_b4, .int .u8 c_b5]] : List PV)).drop 0).take (out_l + 1)) ++ ([.agg [.int .i64 (((l'.getD i'.toNat .nil).cell 0).toInt), .int .i64 (((l'.getD i'.toNat .nil).cell 1).toInt), .str (((l'.getD i'.toNat .nil).cell 2).toStr), .int .u8 (((l'.getD i'.toNat .nil).cell 3).toInt), .int .u8 (((l'.getD i'.toNat .nil).cell 4).toInt), .int .u8 (((l'.getD i'.toNat .nil).cell 5).toInt)]] : List PV))) else none else none else none
        else
          bif ((leI (0 : Int) i') && (ltI i' ((l'.length : Nat) : Int))) then bif (leN (out_l + 1) 2147483648) then L tab C 56 [] [.lp [1, 1, 1, 0, 1, 0]] (S56_111010 l' 0 (out_l + 1) done' (IntKind.i64.wrap (i' + (1 : Int))) c_b0 c_b1 c_b2 c_b3 c_b4 c_b5 (((out_b.drop out_o).take out_l) ++ ([.agg [.int .i64 (((l'.getD i'.toNat .nil).cell 0).toInt), .int .i64 (((l'.getD i'.toNat .nil).cell 1).toInt), .str (((l'.getD i'.toNat .nil).cell 2).toStr), .int .u8 (((l'.getD i'.toNat .nil).cell 3).toInt), .int .u8 (((l'.getD i'.toNat .nil).cell 4).toInt), .int .u8 (((l'.getD i'.toNat .nil).cell 5).toInt)]] : List PV))) else none else none else none
      else
        bif ((leI (0 : Int) i') && (ltI i' ((l'.length : Nat) : Int))) then bif (leN (out_l + 1) 2147483648) then L tab C 56 [] [.lp [1, 1, 1, 0, 1, 0]] (S56_111010 l' 0 (out_l + 1) done' (IntKind.i64.wrap (i' + (1 : Int))) c_b0 c_b1 c_b2 c_b3 c_b4 c_b5 (((out_b.drop out_o).take out_l) ++ ([.agg [.int .i64 (((l'.getD i'.toNat .nil).cell 0).toInt), .int .i64 (((l'.getD i'.toNat .nil).cell 1).toInt), .str (((l'.getD i'.toNat .nil).cell 2).toStr), .int .u8 (((l'.getD i'.toNat .nil).cell 3).toInt), .int .u8 (((l'.getD i'.toNat .nil).cell 4).toInt), .int .u8 (((l'.getD i'.toNat .nil).cell 5).toInt)]] : List PV))) else none else none else none
  else
    bif (!done') then
      bif (leN (out_l + 1) 2147483648) then some ([.fresh true [.int .i64, .int .i64, .str, .int .u8, .int .u8, .int .u8] (((((out_b.drop out_o).take out_l) ++ ([.agg [.int .i64 c_b0, .int .i64 c_b1, .str c_b2, .int .u8 c_b3, .int .u8 c_b4, .int .u8 c_b5]] : List PV)).drop 0).take (out_l + 1)), .p (.bool true)], []) else none
    else
      some ([.fresh true [.int .i64, .int .i64, .str, .int .u8, .int .u8, .int .u8] ((out_b.drop out_o).take out_l), .p (.bool true)], []) := by kernel_rfl
def S57_1010 (l' : List PV) (t9' : Int) (t10' : Int) : St := ⟨(.p (.list true [.int .i64, .int .i64, .str, .int .u8, .int .u8, .int .u8] l')) :: (.p (.fn 54 [])) :: .undef :: .undef :: .undef :: .undef :: .undef :: .undef :: .undef :: (.p (.int .i64 t9')) :: (.p (.int .i64 t10')) :: List.replicate 15 .undef, []⟩
theorem e57 (C : CallF) (l : List PV) : acallI tab C 57 [.p (.list true [.int .i64, .int .i64, .str, .int .u8, .int .u8, .int .u8] l), .p (.fn 54 [])] [] =
  L tab C 57 [] [.lp [1, 0, 1, 0]] (S57_1010 l (goMax 0 (IntKind.i64.wrap (((l.length : Nat) : Int) - (1 : Int)))) 0) := by kernel_rfl
theorem e57_1010 (C : CallF) (l' : List PV) (t9' : Int) (t10' : Int) : R tab C 57 [] [.lp [1, 0, 1, 0]] (S57_1010 l' t9' t10') =
  bif (ltI t10' t9') then
    bif ((leI (0 : Int) t10') && (ltI t10' ((l'.length : Nat) : Int))) then bif ((leI (0 : Int) (IntKind.i64.wrap (t10' + (1 : Int)))) && (ltI (IntKind.i64.wrap (t10' + (1 : Int))) ((l'.length : Nat) : Int))) then (C 54 [.p (.agg [.int .i64 (((l'.getD t10'.toNat .nil).cell 0).toInt), .int .i64 (((l'.getD t10'.toNat .nil).cell 1).toInt), .str (((l'.getD t10'.toNat .nil).cell 2).toStr), .int .u8 (((l'.getD t10'.toNat .nil).cell 3).toInt), .int .u8 (((l'.getD t10'.toNat .nil).cell 4).toInt), .int .u8 (((l'.getD t10'.toNat .nil).cell 5).toInt)]), .p (.agg [.int .i64 (((l'.getD ((IntKind.i64.wrap (t10' + (1 : Int))).toNat) .nil).cell 0).toInt), .int .i64 (((l'.getD ((IntKind.i64.wrap (t10' + (1 : Int))).toNat) .nil).cell 1).toInt), .str (((l'.getD ((IntKind.i64.wrap (t10' + (1 : Int))).toNat) .nil).cell 2).toStr), .int .u8 (((l'.getD ((IntKind.i64.wrap (t10' + (1 : Int))).toNat) .nil).cell 3).toInt), .int .u8 (((l'.getD ((IntKind.i64.wrap (t10' + (1 : Int))).toNat) .nil).cell 4).toInt), .int .u8 (((l'.getD ((IntKind.i64.wrap (t10' + (1 : Int))).toNat) .nil).cell 5).toInt)])] []).bind fun r1 =>
    bif (geI ((r1.1.headD .undef).pv.toInt) (0 : Int)) then
      some ([.p (.bool false)], [])
    else
      L tab C 57 [] [.lp [1, 0, 1, 0]] (S57_1010 l' t9' (IntKind.i64.wrap (t10' + (1 : Int)))) else none else none
  else
    some ([.p (.bool true)], []) := by kernel_rfl
theorem e58 (C : CallF) (s : List PV) : acallI tab C 58 [.p (.list true [.int .i64, .int .i64, .str, .int .u8, .int .u8, .int .u8] s), .p (.fn 59 [])] [] =
  (C 84 [.p (.list true [.int .i64, .int .i64, .str, .int .u8, .int .u8, .int .u8] s), .p (.fn 59 [])] []).bind fun r1 =>
  some ([.p (.bool (geI ((r1.1.headD .undef).pv.toInt) (0 : Int)))], []) := by kernel_rfl
theorem e59 (C : CallF) (c_0 : Int) (c_1 : Int) (c_2 : ByteArray) (c_3 : Int) (c_4 : Int) (c_5 : Int) : acallI tab C 59 [.p (.agg [.int .i64 c_0, .int .i64 c_1, .str c_2, .int .u8 c_3, .int .u8 c_4, .int .u8 c_5])] [] =
  (C 52 [.p (.agg [.int .i64 c_0, .int .i64 c_1, .str c_2, .int .u8 c_3, .int .u8 c_4, .int .u8 c_5])] []).bind fun r1 =>
  some ([.p (.bool (!(r1.1.headD .undef).pv.toBool))], []) := by kernel_rfl
def S61_11010 (l' : List PV) (group' : ByteArray) (out_o : Nat) (out_l : Nat) (i' : Int) (out_b : List PV) : St := ⟨(.p (.list true [.int .i64, .int .i64, .str, .int .u8, .int .u8, .int .u8] l')) :: (.p (.str group')) :: .undef :: .undef :: .undef :: (.slice 5 6 out_o out_l) :: (.p (.int .i64 i')) :: List.replicate 21 .undef, [(5, .arr true [.int .i64, .int .i64, .str, .int .u8, .int .u8, .int .u8] out_b)]⟩
theorem e61 (C : CallF) (l : List PV) (group : ByteArray) : acallI tab C 61 [.p (.list true [.int .i64, .int .i64, .str, .int .u8, .int .u8, .int .u8] l), .p (.str group)] [] =
  L tab C 61 [] [.lp [1, 1, 0, 1, 0]] (S61_11010 l group 0 0 0 []) := by kernel_rfl
theorem e61_11010 (C : CallF) (l' : List PV) (group' : ByteArray) (out_o : Nat) (out_l : Nat) (i' : Int) (out_b : List PV) : R tab C 61 [] [.lp [1, 1, 0, 1, 0]] (S61_11010 l' group' out_o out_l i' out_b) =
  bif (ltI i' ((l'.length : Nat) : Int)) then
    bif ((leI (0 : Int) i') && (ltI i' ((l'.length : Nat) : Int))) then bif ((((l'.getD i'.toNat .nil).cell 2).toStr).toList == group'.toList) then
      bif ((leI (0 : Int) i') && (ltI i' ((l'.length : Nat) : Int))) then bif (leN (out_l + 1) 2147483648) then L tab C 61 [] [.lp [1, 1, 0, 1, 0]] (S61_11010 l' group' 0 (out_l + 1) (IntKind.i64.wrap (i' + (1 : Int))) (((out_b.drop out_o).take out_l) ++ ([.agg [.int .i64 (((l'.getD i'.toNat .nil).cell 0).toInt), .int .i64 (((l'.getD i'.toNat .nil).cell 1).toInt), .str (((l'.getD i'.toNat .nil).cell 2).toStr), .int .u8 (((l'.getD i'.toNat .nil).cell 3).toInt), .int .u8 (((l'.getD i'.toNat .nil).cell 4).toInt), .int .u8 (((l'.getD i'.toNat .nil).cell 5).toInt)]] : List PV))) else none else none
    else
      L tab C 61 [] [.lp [1, 1, 0, 1, 0]] (S61_11010 l' group' out_o out_l (IntKind.i64.wrap (i' + (1 : Int))) out_b) else none
  else
    some ([.fresh true [.int .i64, .int .i64, .str, .int .u8, .int .u8, .int .u8] ((out_b.drop out_o).take out_l)], []) := by kernel_rfl
def S63_11010 (s_o : Nat) (s_l : Nat) (k' : Int) (b100000_b : List PV) : St := ⟨(.slice 100000 1 s_o s_l) :: .undef :: .undef :: (.p (.int .i64 k')) :: List.replicate 57 .undef, [(100000, .arr false [.str] b100000_b)]⟩
def S63_11010_100101010 (s_o : Nat) (s_l : Nat) (k' : Int) (s2_o : Nat) (s2_l : Nat) (k2' : Int) (b100000_b : List PV) : St := ⟨(.slice 100000 1 s_o s_l) :: .undef :: .undef :: (.p (.int .i64 k')) :: (.slice 100000 1 s2_o s2_l) :: (.p (.int .i64 k2')) :: List.replicate 55 .undef, [(100000, .arr false [.str] b100000_b)]⟩
theorem e63 (C : CallF) (s_o : Nat) (s_l : Nat) (s_b : List PV) : acallI tab C 63 [.slice 100000 1 s_o s_l] [.arr false [.str] s_b] =
  bif (ltI (s_l : Int) (2 : Int)) then
    some ([.slice 100000 1 s_o s_l], [.arr false [.str] s_b])
  else
    L tab C 63 [.arr false [.str] s_b] [.lp [1, 1, 0, 1, 0]] (S63_11010 s_o s_l 1 s_b) := by kernel_rfl
theorem e63_11010 (C : CallF) (s_b : List PV) (s_o : Nat) (s_l : Nat) (k' : Int) (b100000_b : List PV) : R tab C 63 [.arr false [.str] s_b] [.lp [1, 1, 0, 1, 0]] (S63_11010 s_o s_l k' b100000_b) =
  bif (ltI k' (s_l : Int)) then
    bif ((leI (0 : Int) k') && (ltI k' (s_l : Int))) then bif ((leI (0 : Int) (IntKind.i64.wrap (k' - (1 : Int)))) && (ltI (IntKind.i64.wrap (k' - (1 : Int))) (s_l : Int))) then bif ((((b100000_b.getD (s_o + k'.toNat) .nil).cell 0).toStr).toList == (((b100000_b.getD (s_o + (IntKind.i64.wrap (k' - (1 : Int))).toNat) .nil).cell 0).toStr).toList) then
      bif ((leI (0 : Int) k') && ((leI k' (s_l : Int)) && ((leI (s_l : Int) (s_l : Int)) && (leI (s_l : Int) (s_l : Int))))) then L tab C 63 [.arr false [.str] s_b] [.lp [1, 1, 0, 1, 0], .lp [1, 0, 0, 1, 0, 1, 0, 1, 0]] (S63_11010_100101010 s_o s_l k' (s_o + k'.toNat) (((s_l : Int) - k').toNat) 1 b100000_b) else none
    else
      L tab C 63 [.arr false [.str] s_b] [.lp [1, 1, 0, 1, 0]] (S63_11010 s_o s_l (IntKind.i64.wrap (k' + (1 : Int))) b100000_b) else none else none
  else
    some ([.slice 100000 1 s_o s_l], [.arr false [.str] b100000_b]) := by kernel_rfl
theorem e63_11010_100101010 (C : CallF) (s_b : List PV) (s_o : Nat) (s_l : Nat) (k' : Int) (s2_o : Nat) (s2_l : Nat) (k2' : Int) (b100000_b : List PV) : R tab C 63 [.arr false [.str] s_b] [.lp [1, 1, 0, 1, 0], .lp [1, 0, 0, 1, 0, 1, 0, 1, 0]] (S63_11010_100101010 s_o s_l k' s2_o s2_l k2' b100000_b) =
  bif (ltI k2' (s2_l : Int)) then
    bif ((leI (0 : Int) k2') && (ltI k2' (s2_l : Int))) then bif ((leI (0 : Int) (IntKind.i64.wrap (k2' - (1 : Int)))) && (ltI (IntKind.i64.wrap (k2' - (1 : Int))) (s2_l : Int))) then bif (!((((b100000_b.getD (s2_o + k2'.toNat) .nil).cell 0).toStr).toList == (((b100000_b.getD (s2_o + (IntKind.i64.wrap (k2' - (1 : Int))).toNat) .nil).cell 0).toStr).toList)) then
      bif ((leI (0 : Int) k2') && (ltI k2' (s2_l : Int))) then bif ((leI (0 : Int) k') && (ltI k' (s_l : Int))) then L tab C 63 [.arr false [.str] s_b] [.lp [1, 1, 0, 1, 0], .lp [1, 0, 0, 1, 0, 1, 0, 1, 0]] (S63_11010_100101010 s_o s_l (IntKind.i64.wrap (k' + (1 : Int))) s2_o s2_l (IntKind.i64.wrap (k2' + (1 : Int))) (b100000_b.set (s_o + k'.toNat) (PV.str (((b100000_b.getD (s2_o + k2'.toNat) .nil).cell 0).toStr)))) else none else none
    else
      L tab C 63 [.arr false [.str] s_b] [.lp [1, 1, 0, 1, 0], .lp [1, 0, 0, 1, 0, 1, 0, 1, 0]] (S63_11010_100101010 s_o s_l k' s2_o s2_l (IntKind.i64.wrap (k2' + (1 : Int))) b100000_b) else none else none
  else
    bif ((leI (0 : Int) k') && ((leI k' (s_l : Int)) && ((leI (s_l : Int) (s_l : Int)) && (leI (s_l : Int) (s_l : Int))))) then bif ((leI (0 : Int) k') && ((leI k' (s_l : Int)) && (leI (s_l : Int) (s_l : Int)))) then some ([.slice 100000 1 (s_o + 0) ((k' - (0 : Int)).toNat)], [.arr false [.str] (patch b100000_b (s_o + k'.toNat) (List.replicate (((s_l : Int) - k').toNat) (PV.str ⟨#[]⟩)))]) else none else none := by kernel_rfl
theorem e64 (C : CallF) (l : List PV) (t : Int) (step : Int) : acallI tab C 64 [.p (.list true [.int .i64, .int .i64] l), .p (.int .i64 t), .p (.int .i64 step)] [] =
  (C 88 [.p (.list true [.int .i64, .int .i64] l), .p (.int .i64 step), .p (.list false [.int .i64] [.int .i64 t])] []).bind fun r1 =>
  bif ((r1.1.headD .undef).pv.toInt != (0 : Int)) then
    some ([.p (.int .i64 0), .p (.int .i64 ((r1.1.headD .undef).pv.toInt))], [])
  else
    bif (!(decide (step = (0 : Int)))) then (C 89 [.p (.int .i64 (IntKind.i64.wrap ((4194304 : Int).tdiv step))), .p (.fn 90 [.ref [.list true [.int .i64, .int .i64] l], .ref [.int .i64 step], .ref [.int .i64 t]])] []).bind fun r2 =>
    bif (decide (((r2.1.headD .undef).pv.toInt) > (0 : Int))) then
      (C 91 [.p (.list true [.int .i64, .int .i64] l), .p (.int .i64 (IntKind.i64.wrap ((IntKind.i64.wrap ((r2.1.headD .undef).pv.toInt - (1 : Int))) * step)))] []).bind fun r3 =>
      (C 91 [.p (.list true [.int .i64, .int .i64] l), .p (.int .i64 (IntKind.i64.wrap ((r2.1.headD .undef).pv.toInt * step)))] []).bind fun r4 =>
      bif (decide (((r4.1.headD .undef).pv.toInt) < t)) then
        bif (decide (((r4.1.headD .undef).pv.toInt) < t)) then
          (C 89 [.p (.int .i64 (IntKind.i64.wrap ((4194304 : Int).tdiv step))), .p (.fn 92 [.ref [.list true [.int .i64, .int .i64] l], .ref [.int .i64 step], .ref [.int .i64 ((r4.1.headD .undef).pv.toInt)]])] []).bind fun r5 =>
          some ([.p (.int .i64 (IntKind.i64.wrap ((r5.1.headD .undef).pv.toInt * step))), .p (.int .i64 0)], [])
        else
          (C 89 [.p (.int .i64 (IntKind.i64.wrap ((4194304 : Int).tdiv step))), .p (.fn 92 [.ref [.list true [.int .i64, .int .i64] l], .ref [.int .i64 step], .ref [.int .i64 ((r3.1.headD .undef).pv.toInt)]])] []).bind fun r6 =>
          some ([.p (.int .i64 (IntKind.i64.wrap ((r6.1.headD .undef).pv.toInt * step))), .p (.int .i64 0)], [])
      else
        bif (decide ((IntKind.i64.wrap (t - (r3.1.headD .undef).pv.toInt)) ≤ (IntKind.i64.wrap ((r4.1.headD .undef).pv.toInt - t)))) then
          bif (decide (((r4.1.headD .undef).pv.toInt) < t)) then
            (C 89 [.p (.int .i64 (IntKind.i64.wrap ((4194304 : Int).tdiv step))), .p (.fn 92 [.ref [.list true [.int .i64, .int .i64] l], .ref [.int .i64 step], .ref [.int .i64 ((r4.1.headD .undef).pv.toInt)]])] []).bind fun r7 =>
            some ([.p (.int .i64 (IntKind.i64.wrap ((r7.1.headD .undef).pv.toInt * step))), .p (.int .i64 0)], [])
          else
            (C 89 [.p (.int .i64 (IntKind.i64.wrap ((4194304 : Int).tdiv step))), .p (.fn 92 [.ref [.list true [.int .i64, .int .i64] l], .ref [.int .i64 step], .ref [.int .i64 ((r3.1.headD .undef).pv.toInt)]])] []).bind fun r8 =>
            some ([.p (.int .i64 (IntKind.i64.wrap ((r8.1.headD .undef).pv.toInt * step))), .p (.int .i64 0)], [])
        else
          some ([.p (.int .i64 (IntKind.i64.wrap ((r2.1.headD .undef).pv.toInt * step))), .p (.int .i64 0)], [])
    else
      some ([.p (.int .i64 (IntKind.i64.wrap ((r2.1.headD .undef).pv.toInt * step))), .p (.int .i64 0)], []) else none := by kernel_rfl
theorem e65 (C : CallF) (l : List PV) (tick : Int) : acallI tab C 65 [.p (.list true [.int .i64, .int .i64] l), .p (.int .i64 tick)] [] =
  (C 93 [.p (.list true [.int .i64, .int .i64] l), .p (.int .i64 tick)] []).bind fun r1 =>
  bif ((r1.1.tail.headD .undef).pv.toInt != (0 : Int)) then
    some ([.p (.int .i64 0), .p (.int .i64 ((r1.1.tail.headD .undef).pv.toInt))], [])
  else
    (C 91 [.p (.list true [.int .i64, .int .i64] l), .p (.int .i64 tick)] []).bind fun r2 =>
    bif (decide (((r2.1.headD .undef).pv.toInt) > (3600000 : Int))) then
      some ([.p (.int .i64 0), .p (.int .i64 3)], [])
    else
      some ([.p (.int .i64 ((r2.1.headD .undef).pv.toInt)), .p (.int .i64 0)], []) := by kernel_rfl
def S67_11010 (l' : List PV) (i' : Int) : St := ⟨(.p (.list true [.int .i64, .int .i64] l')) :: .undef :: .undef :: (.p (.int .i64 i')) :: List.replicate 54 .undef, []⟩
theorem e67 (C : CallF) (l : List PV) : acallI tab C 67 [.p (.list true [.int .i64, .int .i64] l)] [] =
  bif (decide (((l.length : Nat) : Int) < (1 : Int))) then
    some ([.p (.bool false)], [])
  else
    bif (decide (((l.length : Nat) : Int) > (64 : Int))) then
      some ([.p (.bool false)], [])
    else
      bif (decide ((0 : Int) < ((l.length : Nat) : Int))) then bif (((l.getD 0 .nil).cell 0).toInt != (0 : Int)) then
        some ([.p (.bool false)], [])
      else
        L tab C 67 [] [.lp [1, 1, 0, 1, 0]] (S67_11010 l 0) else none := by kernel_rfl
theorem e67_11010 (C : CallF) (l' : List PV) (i' : Int) : R tab C 67 [] [.lp [1, 1, 0, 1, 0]] (S67_11010 l' i') =
  bif (decide (i' < ((l'.length : Nat) : Int))) then
    bif ((decide ((0 : Int) ≤ i')) && (decide (i' < ((l'.length : Nat) : Int)))) then (C 95 [.p (.int .i64 (((l'.getD i'.toNat .nil).cell 1).toInt)), .p (.int .i64 100000), .p (.int .i64 6000000)] []).bind fun r1 =>
    bif (!(r1.1.headD .undef).pv.toBool) then
      some ([.p (.bool false)], [])
    else
      bif ((decide ((0 : Int) ≤ i')) && (decide (i' < ((l'.length : Nat) : Int)))) then bif (decide ((((l'.getD i'.toNat .nil).cell 0).toInt) > (4194304 : Int))) then
        some ([.p (.bool false)], [])
      else
        bif (decide (i' > (0 : Int))) then
          bif ((decide ((0 : Int) ≤ i')) && (decide (i' < ((l'.length : Nat) : Int)))) then bif ((decide ((0 : Int) ≤ (IntKind.i64.wrap (i' - (1 : Int))))) && (decide ((IntKind.i64.wrap (i' - (1 : Int))) < ((l'.length : Nat) : Int)))) then bif (decide ((((l'.getD i'.toNat .nil).cell 0).toInt) ≤ (((l'.getD ((IntKind.i64.wrap (i' - (1 : Int))).toNat) .nil).cell 0).toInt))) then
            some ([.p (.bool false)], [])
          else
            L tab C 67 [] [.lp [1, 1, 0, 1, 0]] (S67_11010 l' (IntKind.i64.wrap (i' + (1 : Int)))) else none else none
        else
          L tab C 67 [] [.lp [1, 1, 0, 1, 0]] (S67_11010 l' (IntKind.i64.wrap (i' + (1 : Int)))) else none else none
  else
    some ([.p (.bool true)], []) := by kernel_rfl
def S68_11111100 (l' : List PV) (time' : Int) (step' : Int) (a' : Int) : St := ⟨(.p (.list true [.int .i64, .int .i64] l')) :: (.p (.int .i64 time')) :: (.p (.int .i64 step')) :: .undef :: .undef :: .undef :: .undef :: .undef :: .undef :: .undef :: (.p (.int .i64 a')) :: List.replicate 70 .undef, []⟩
theorem e68 (C : CallF) (l : List PV) (time : Int) (step : Int) : acallI tab C 68 [.p (.list true [.int .i64, .int .i64] l), .p (.int .i64 time), .p (.int .i64 step)] [] =
  (C 67 [.p (.list true [.int .i64, .int .i64] l)] []).bind fun r1 =>
  bif (!(r1.1.headD .undef).pv.toBool) then
    some ([.p (.int .i64 0), .p (.int .i64 2)], [])
  else
    (C 95 [.p (.int .i64 step), .p (.int .i64 1), .p (.int .i64 4194304)] []).bind fun r2 =>
    bif (!(r2.1.headD .undef).pv.toBool) then
      some ([.p (.int .i64 0), .p (.int .i64 2)], [])
    else
      (C 95 [.p (.int .i64 time), .p (.int .i64 0), .p (.int .i64 3600000)] []).bind fun r3 =>
      bif (!(r3.1.headD .undef).pv.toBool) then
        some ([.p (.int .i64 0), .p (.int .i64 3)], [])
      else
        (C 96 [.p (.list true [.int .i64, .int .i64] l), .p (.int .i64 time)] []).bind fun r4 =>
        bif (!(decide (step = (0 : Int)))) then bif (decide ((IntKind.i64.wrap ((IntKind.i64.wrap ((IntKind.i64.wrap (((r4.1.headD .undef).pv.toInt).tdiv step)) * step)) + step)) ≤ (4194304 : Int))) then
          (C 99 [.p (.list true [.int .i64, .int .i64] l), .p (.int .i64 (IntKind.i64.wrap ((IntKind.i64.wrap ((IntKind.i64.wrap (((r4.1.headD .undef).pv.toInt).tdiv step)) * step)) + step)))] []).bind fun r5 =>
          (C 98 [.p (.int .i64 ((r5.1.headD .undef).pv.toInt))] []).bind fun r6 =>
          (C 97 [.p (.int .i64 ((r6.1.headD .undef).pv.toInt)), .p (.int .i64 time)] []).bind fun r7 =>
          (C 99 [.p (.list true [.int .i64, .int .i64] l), .p (.int .i64 (IntKind.i64.wrap ((IntKind.i64.wrap (((r4.1.headD .undef).pv.toInt).tdiv step)) * step)))] []).bind fun r8 =>
          (C 98 [.p (.int .i64 ((r8.1.headD .undef).pv.toInt))] []).bind fun r9 =>
          (C 97 [.p (.int .i64 ((r9.1.headD .undef).pv.toInt)), .p (.int .i64 time)] []).bind fun r10 =>
          bif (decide (((r7.1.headD .undef).pv.toInt) < ((r10.1.headD .undef).pv.toInt))) then
            L tab C 68 [] [.lp [1, 1, 1, 1, 1, 1, 0, 0]] (S68_11111100 l time step (IntKind.i64.wrap ((IntKind.i64.wrap ((IntKind.i64.wrap (((r4.1.headD .undef).pv.toInt).tdiv step)) * step)) + step)))
          else
            L tab C 68 [] [.lp [1, 1, 1, 1, 1, 1, 0, 0]] (S68_11111100 l time step (IntKind.i64.wrap ((IntKind.i64.wrap (((r4.1.headD .undef).pv.toInt).tdiv step)) * step)))
        else
          L tab C 68 [] [.lp [1, 1, 1, 1, 1, 1, 0, 0]] (S68_11111100 l time step (IntKind.i64.wrap ((IntKind.i64.wrap (((r4.1.headD .undef).pv.toInt).tdiv step)) * step))) else none := by kernel_rfl
theorem e68_11111100 (C : CallF) (l' : List PV) (time' : Int) (step' : Int) (a' : Int) : R tab C 68 [] [.lp [1, 1, 1, 1, 1, 1, 0, 0]] (S68_11111100 l' time' step' a') =
  bif (decide (a' ≥ step')) then
    (C 99 [.p (.list true [.int .i64, .int .i64] l'), .p (.int .i64 (IntKind.i64.wrap (a' - step')))] []).bind fun r1 =>
    (C 98 [.p (.int .i64 ((r1.1.headD .undef).pv.toInt))] []).bind fun r2 =>
    (C 97 [.p (.int .i64 ((r2.1.headD .undef).pv.toInt)), .p (.int .i64 time')] []).bind fun r3 =>
    (C 99 [.p (.list true [.int .i64, .int .i64] l'), .p (.int .i64 a')] []).bind fun r4 =>
    (C 98 [.p (.int .i64 ((r4.1.headD .undef).pv.toInt))] []).bind fun r5 =>
    (C 97 [.p (.int .i64 ((r5.1.headD .undef).pv.toInt)), .p (.int .i64 time')] []).bind fun r6 =>
    bif (decide (((r3.1.headD .undef).pv.toInt) ≤ ((r6.1.headD .undef).pv.toInt))) then
      L tab C 68 [] [.lp [1, 1, 1, 1, 1, 1, 0, 0]] (S68_11111100 l' time' step' (IntKind.i64.wrap (a' - step')))
    else
      some ([.p (.int .i64 a'), .p (.int .i64 0)], [])
  else
    some ([.p (.int .i64 a'), .p (.int .i64 0)], []) := by kernel_rfl
theorem e69 (C : CallF) (l : List PV) (tick : Int) : acallI tab C 69 [.p (.list true [.int .i64, .int .i64] l), .p (.int .i64 tick)] [] =
  (C 100 [.p (.list true [.int .i64, .int .i64] l), .p (.int .i64 tick)] []).bind fun r1 =>
  bif ((r1.1.tail.headD .undef).pv.toInt != (0 : Int)) then
    some ([.p (.int .i64 0), .p (.int .i64 ((r1.1.tail.headD .undef).pv.toInt))], [])
  else
    (C 98 [.p (.int .i64 ((r1.1.headD .undef).pv.toInt))] []).bind fun r2 =>
    bif (decide (((r2.1.headD .undef).pv.toInt) > (3600000 : Int))) then
      some ([.p (.int .i64 0), .p (.int .i64 3)], [])
    else
      (C 98 [.p (.int .i64 ((r1.1.headD .undef).pv.toInt))] []).bind fun r3 =>
      some ([.p (.int .i64 ((r3.1.headD .undef).pv.toInt)), .p (.int .i64 0)], []) := by kernel_rfl
def S72_11010 (out_o : Nat) (out_l : Nat) (t14_o : Nat) (t14_l : Nat) (t15' : Int) (t16' : Int) (out_b : List PV) (b14_b : List PV) : St := ⟨.undef :: .undef :: .undef :: (.slice 3 1 out_o out_l) :: .undef :: .undef :: .undef :: .undef :: .undef :: .undef :: .undef :: .undef :: .undef :: .undef :: (.slice 14 1 t14_o t14_l) :: (.p (.int .i64 t15')) :: (.p (.int .i64 t16')) :: List.replicate 15 .undef, [(3, .arr false [.int .u8] out_b), (14, .arr false [.int .u8] b14_b)]⟩
theorem e72 (C : CallF) (c_0 : Int) (c_1 : Int) (c_2 : Int) : acallI tab C 72 [.p (.agg [.int .u8 c_0, .int .u8 c_1, .int .u8 c_2])] [] =
  L tab C 72 [] [.lp [1, 1, 0, 1, 0]] (S72_11010 0 1 0 3 3 0 [.int .u8 35] [.int .u8 c_0, .int .u8 c_1, .int .u8 c_2]) := by kernel_rfl
theorem e72_11010 (C : CallF) (out_o : Nat) (out_l : Nat) (t14_o : Nat) (t14_l : Nat) (t15' : Int) (t16' : Int) (out_b : List PV) (b14_b : List PV) : R tab C 72 [] [.lp [1, 1, 0, 1, 0]] (S72_11010 out_o out_l t14_o t14_l t15' t16' out_b b14_b) =
  bif (ltI t16' t15') then
    bif ((leI (0 : Int) t16') && (ltI t16' (t14_l : Int))) then bif ((leI (0 : Int) (IntKind.u8.wrap ((((b14_b.getD (t14_o + t16'.toNat) .nil).cell 0).toInt).tdiv (16 : Int)))) && (ltI (IntKind.u8.wrap ((((b14_b.getD (t14_o + t16'.toNat) .nil).cell 0).toInt).tdiv (16 : Int))) ((⟨#[48, 49, 50, 51, 52, 53, 54, 55, 56, 57, 97, 98, 99, 100, 101, 102]⟩ : ByteArray).size : Int))) then bif ((leI (0 : Int) ((((b14_b.getD (t14_o + t16'.toNat) .nil).cell 0).toInt).tmod (16 : Int))) && (ltI ((((b14_b.getD (t14_o + t16'.toNat) .nil).cell 0).toInt).tmod (16 : Int)) ((⟨#[48, 49, 50, 51, 52, 53, 54, 55, 56, 57, 97, 98, 99, 100, 101, 102]⟩ : ByteArray).size : Int))) then bif (leN (out_l + 2) 2147483648) then L tab C 72 [] [.lp [1, 1, 0, 1, 0]] (S72_11010 0 (out_l + 2) t14_o t14_l t15' (IntKind.i64.wrap (t16' + (1 : Int))) (((out_b.drop out_o).take out_l) ++ ([.int .u8 (((⟨#[48, 49, 50, 51, 52, 53, 54, 55, 56, 57, 97, 98, 99, 100, 101, 102]⟩ : ByteArray).data.getD ((IntKind.u8.wrap ((((b14_b.getD (t14_o + t16'.toNat) .nil).cell 0).toInt).tdiv (16 : Int))).toNat) 0).toNat : Int), .int .u8 (((⟨#[48, 49, 50, 51, 52, 53, 54, 55, 56, 57, 97, 98, 99, 100, 101, 102]⟩ : ByteArray).data.getD (((((b14_b.getD (t14_o + t16'.toNat) .nil).cell 0).toInt).tmod (16 : Int)).toNat) 0).toNat : Int)] : List PV)) b14_b) else none else none else none else none
  else
    some ([.p (.str (bytesOf ((out_b.drop out_o).take out_l)))], []) := by kernel_rfl
def S78_1010 (s' : List PV) (v' : Int) (t7' : Int) (t8' : Int) : St := ⟨(.p (.list false [.int .u8] s')) :: (.p (.int .u8 v')) :: .undef :: .undef :: .undef :: .undef :: .undef :: (.p (.int .i64 t7')) :: (.p (.int .i64 t8')) :: List.replicate 10 .undef, []⟩
theorem e78 (C : CallF) (s : List PV) (v : Int) : acallI tab C 78 [.p (.list false [.int .u8] s), .p (.int .u8 v)] [] =
  L tab C 78 [] [.lp [1, 0, 1, 0]] (S78_1010 s v ((s.length : Nat) : Int) 0) := by kernel_rfl
theorem e78_1010 (C : CallF) (s' : List PV) (v' : Int) (t7' : Int) (t8' : Int) : R tab C 78 [] [.lp [1, 0, 1, 0]] (S78_1010 s' v' t7' t8') =
  bif (ltI t8' t7') then
    bif ((leI (0 : Int) t8') && (ltI t8' ((s'.length : Nat) : Int))) then bif (v' == ((s'.getD t8'.toNat .nil).cell 0).toInt) then
      some ([.p (.int .i64 t8')], [])
    else
      L tab C 78 [] [.lp [1, 0, 1, 0]] (S78_1010 s' v' t7' (IntKind.i64.wrap (t8' + (1 : Int)))) else none
  else
    some ([.p (.int .i64 (-1))], []) := by kernel_rfl
theorem e80 (C : CallF) (a : Int) (b : Int) (num : Int) (den : Int) : acallI tab C 80 [.p (.int .u8 a), .p (.int .u8 b), .p (.int .i64 num), .p (.int .i64 den)] [] =
  bif (!(eqI (IntKind.i64.wrap ((2 : Int) * den)) (0 : Int))) then some ([.p (.int .u8 (IntKind.u8.wrap (IntKind.i64.wrap ((IntKind.i64.wrap ((IntKind.i64.wrap ((2 : Int) * (IntKind.i64.wrap ((IntKind.i64.wrap ((IntKind.i64.wrap a) * (IntKind.i64.wrap (den - num)))) + (IntKind.i64.wrap ((IntKind.i64.wrap b) * num)))))) + den)).tdiv (IntKind.i64.wrap ((2 : Int) * den))))))], []) else none := by kernel_rfl
def S81_11010 (zero' : Int) (t6' : List PV) (t7' : Int) (t8' : Int) : St := ⟨.undef :: .undef :: .undef :: (.p (.int .i64 zero')) :: .undef :: .undef :: (.p (.list false [.int .i64] t6')) :: (.p (.int .i64 t7')) :: (.p (.int .i64 t8')) :: List.replicate 9 .undef, []⟩
theorem e81 (C : CallF) (vals : List PV) : acallI tab C 81 [.p (.list false [.int .i64] vals)] [] =
  L tab C 81 [] [.lp [1, 1, 0, 1, 0]] (S81_11010 0 vals ((vals.length : Nat) : Int) 0) := by kernel_rfl
theorem e81_11010 (C : CallF) (zero' : Int) (t6' : List PV) (t7' : Int) (t8' : Int) : R tab C 81 [] [.lp [1, 1, 0, 1, 0]] (S81_11010 zero' t6' t7' t8') =
  bif (ltI t8' t7') then
    bif ((leI (0 : Int) t8') && (ltI t8' ((t6'.length : Nat) : Int))) then bif (((t6'.getD t8'.toNat .nil).cell 0).toInt != zero') then
      some ([.p (.int .i64 (((t6'.getD t8'.toNat .nil).cell 0).toInt))], [])
    else
      L tab C 81 [] [.lp [1, 1, 0, 1, 0]] (S81_11010 zero' t6' t7' (IntKind.i64.wrap (t8' + (1 : Int)))) else none
  else
    some ([.p (.int .i64 zero')], []) := by kernel_rfl
theorem e82 (C : CallF) (x : Int) (y : Int) : acallI tab C 82 [.p (.int .i64 x), .p (.int .i64 y)] [] =
  (C 113 [.p (.int .i64 x)] []).bind fun r1 =>
  (C 113 [.p (.int .i64 y)] []).bind fun r2 =>
  bif (r1.1.headD .undef).pv.toBool then
    bif (r2.1.headD .undef).pv.toBool then
      some ([.p (.int .i64 0)], [])
    else
      some ([.p (.int .i64 (-1))], [])
  else
    bif (r2.1.headD .undef).pv.toBool then
      some ([.p (.int .i64 1)], [])
    else
      bif (ltI x y) then
        some ([.p (.int .i64 (-1))], [])
      else
        bif (gtI x y) then
          some ([.p (.int .i64 1)], [])
        else
          some ([.p (.int .i64 0)], []) := by kernel_rfl
def S84_1010 (s' : List PV) (t7' : Int) (t8' : Int) : St := ⟨(.p (.list true [.int .i64, .int .i64, .str, .int .u8, .int .u8, .int .u8] s')) :: (.p (.fn 59 [])) :: .undef :: .undef :: .undef :: .undef :: .undef :: (.p (.int .i64 t7')) :: (.p (.int .i64 t8')) :: List.replicate 10 .undef, []⟩
theorem e84 (C : CallF) (s : List PV) : acallI tab C 84 [.p (.list true [.int .i64, .int .i64, .str, .int .u8, .int .u8, .int .u8] s), .p (.fn 59 [])] [] =
  L tab C 84 [] [.lp [1, 0, 1, 0]] (S84_1010 s ((s.length : Nat) : Int) 0) := by kernel_rfl
theorem e84_1010 (C : CallF) (s' : List PV) (t7' : Int) (t8' : Int) : R tab C 84 [] [.lp [1, 0, 1, 0]] (S84_1010 s' t7' t8') =
  bif (ltI t8' t7') then
    bif ((leI (0 : Int) t8') && (ltI t8' ((s'.length : Nat) : Int))) then (C 59 [.p (.agg [.int .i64 (((s'.getD t8'.toNat .nil).cell 0).toInt), .int .i64 (((s'.getD t8'.toNat .nil).cell 1).toInt), .str (((s'.getD t8'.toNat .nil).cell 2).toStr), .int .u8 (((s'.getD t8'.toNat .nil).cell 3).toInt), .int .u8 (((s'.getD t8'.toNat .nil).cell 4).toInt), .int .u8 (((s'.getD t8'.toNat .nil).cell 5).toInt)])] []).bind fun r1 =>
    bif (r1.1.headD .undef).pv.toBool then
      some ([.p (.int .i64 t8')], [])
    else
      L tab C 84 [] [.lp [1, 0, 1, 0]] (S84_1010 s' t7' (IntKind.i64.wrap (t8' + (1 : Int)))) else none
  else
    some ([.p (.int .i64 (-1))], []) := by kernel_rfl
theorem e85 (C : CallF) (a_0 : Int) (a_1 : Int) (a_2 : Int) (b_0 : Int) (b_1 : Int) (b_2 : Int) (num : Int) (den : Int) : acallI tab C 85 [.p (.agg [.int .u8 a_0, .int .u8 a_1, .int .u8 a_2]), .p (.agg [.int .u8 b_0, .int .u8 b_1, .int .u8 b_2]), .p (.int .i64 num), .p (.int .i64 den)] [] =
  bif (ltI den (1 : Int)) then
    some ([.p (.agg [.int .u8 0, .int .u8 0, .int .u8 0]), .p (.int .i64 2)], [])
  else
    bif (gtI den (3600000 : Int)) then
      some ([.p (.agg [.int .u8 0, .int .u8 0, .int .u8 0]), .p (.int .i64 2)], [])
    else
      bif (ltI num (0 : Int)) then
        some ([.p (.agg [.int .u8 0, .int .u8 0, .int .u8 0]), .p (.int .i64 2)], [])
      else
        bif (gtI num den) then
          some ([.p (.agg [.int .u8 0, .int .u8 0, .int .u8 0]), .p (.int .i64 2)], [])
        else
          (C 115 [.p (.int .i64 (IntKind.i64.wrap a_0)), .p (.int .i64 (IntKind.i64.wrap b_0)), .p (.int .i64 num), .p (.int .i64 den)] []).bind fun r1 =>
          (C 115 [.p (.int .i64 (IntKind.i64.wrap a_1)), .p (.int .i64 (IntKind.i64.wrap b_1)), .p (.int .i64 num), .p (.int .i64 den)] []).bind fun r2 =>
          (C 115 [.p (.int .i64 (IntKind.i64.wrap a_2)), .p (.int .i64 (IntKind.i64.wrap b_2)), .p (.int .i64 num), .p (.int .i64 den)] []).bind fun r3 =>
          some ([.p (.agg [.int .u8 ((r1.1.headD .undef).pv.toInt), .int .u8 ((r2.1.headD .undef).pv.toInt), .int .u8 ((r3.1.headD .undef).pv.toInt)]), .p (.int .i64 0)], []) := by kernel_rfl
def S88_11010 (t17' : List PV) (t18' : Int) (t19' : Int) : St := ⟨.undef :: .undef :: .undef :: .undef :: .undef :: .undef :: .undef :: .undef :: .undef :: .undef :: .undef :: .undef :: .undef :: .undef :: .undef :: .undef :: .undef :: (.p (.list false [.int .i64] t17')) :: (.p (.int .i64 t18')) :: (.p (.int .i64 t19')) :: List.replicate 7 .undef, []⟩
theorem e88 (C : CallF) (l : List PV) (step : Int) (times : List PV) : acallI tab C 88 [.p (.list true [.int .i64, .int .i64] l), .p (.int .i64 step), .p (.list false [.int .i64] times)] [] =
  (C 127 [.p (.list true [.int .i64, .int .i64] l)] []).bind fun r1 =>
  bif (!(r1.1.headD .undef).pv.toBool) then
    some ([.p (.int .i64 2)], [])
  else
    (C 128 [.p (.int .i64 step), .p (.int .i64 1), .p (.int .i64 4194304)] []).bind fun r2 =>
    bif (!(r2.1.headD .undef).pv.toBool) then
      some ([.p (.int .i64 2)], [])
    else
      L tab C 88 [] [.lp [1, 1, 0, 1, 0]] (S88_11010 times ((times.length : Nat) : Int) 0) := by kernel_rfl
theorem e88_11010 (C : CallF) (t17' : List PV) (t18' : Int) (t19' : Int) : R tab C 88 [] [.lp [1, 1, 0, 1, 0]] (S88_11010 t17' t18' t19') =
  bif (decide (t19' < t18')) then
    bif ((decide ((0 : Int) ≤ t19')) && (decide (t19' < ((t17'.length : Nat) : Int)))) then (C 128 [.p (.int .i64 (((t17'.getD t19'.toNat .nil).cell 0).toInt)), .p (.int .i64 0), .p (.int .i64 3600000)] []).bind fun r1 =>
    bif (!(r1.1.headD .undef).pv.toBool) then
      some ([.p (.int .i64 3)], [])
    else
      L tab C 88 [] [.lp [1, 1, 0, 1, 0]] (S88_11010 t17' t18' (IntKind.i64.wrap (t19' + (1 : Int)))) else none
  else
    some ([.p (.int .i64 0)], []) := by kernel_rfl
def S89_1100a (f_c0_r0 : List PV) (f_c1_r0 : Int) (f_c2_r0 : Int) (i' : Int) (j' : Int) : St := ⟨.undef :: (.p (.fn 90 [.ref [.list true [.int .i64, .int .i64] f_c0_r0], .ref [.int .i64 f_c1_r0], .ref [.int .i64 f_c2_r0]])) :: .undef :: .undef :: .undef :: (.p (.int .i64 i')) :: (.p (.int .i64 j')) :: List.replicate 19 .undef, []⟩
theorem e89a (C : CallF) (n_ : Int) (l : List PV) (step : Int) (t : Int) : acallI tab C 89 [.p (.int .i64 n_), .p (.fn 90 [.ref [.list true [.int .i64, .int .i64] l], .ref [.int .i64 step], .ref [.int .i64 t]])] [] =
  L tab C 89 [] [.lp [1, 1, 0, 0]] (S89_1100a l step t 0 n_) := by kernel_rfl
theorem e89_1100a (C : CallF) (f_c0_r0 : List PV) (f_c1_r0 : Int) (f_c2_r0 : Int) (i' : Int) (j' : Int) : R tab C 89 [] [.lp [1, 1, 0, 0]] (S89_1100a f_c0_r0 f_c1_r0 f_c2_r0 i' j') =
  bif (decide (i' < j')) then
    (C 90 [.p (.int .i64 (IntKind.i64.wrap ((IntKind.u64.wrap (IntKind.i64.wrap (i' + j'))).fdiv (2 ^ 1)))), .p (.ref [.list true [.int .i64, .int .i64] f_c0_r0]), .p (.ref [.int .i64 f_c1_r0]), .p (.ref [.int .i64 f_c2_r0])] []).bind fun r1 =>
    bif (!(r1.1.headD .undef).pv.toBool) then
      L tab C 89 [] [.lp [1, 1, 0, 0]] (S89_1100a f_c0_r0 f_c1_r0 f_c2_r0 (IntKind.i64.wrap ((IntKind.i64.wrap ((IntKind.u64.wrap (IntKind.i64.wrap (i' + j'))).fdiv (2 ^ 1))) + (1 : Int))) j')
    else
      L tab C 89 [] [.lp [1, 1, 0, 0]] (S89_1100a f_c0_r0 f_c1_r0 f_c2_r0 i' (IntKind.i64.wrap ((IntKind.u64.wrap (IntKind.i64.wrap (i' + j'))).fdiv (2 ^ 1))))
  else
    some ([.p (.int .i64 i')], []) := by kernel_rfl
def S89_1100b (f_c0_r0 : List PV) (f_c1_r0 : Int) (f_c2_r0 : Int) (i' : Int) (j' : Int) : St := ⟨.undef :: (.p (.fn 92 [.ref [.list true [.int .i64, .int .i64] f_c0_r0], .ref [.int .i64 f_c1_r0], .ref [.int .i64 f_c2_r0]])) :: .undef :: .undef :: .undef :: (.p (.int .i64 i')) :: (.p (.int .i64 j')) :: List.replicate 19 .undef, []⟩
theorem e89b (C : CallF) (n_ : Int) (l : List PV) (step : Int) (t : Int) : acallI tab C 89 [.p (.int .i64 n_), .p (.fn 92 [.ref [.list true [.int .i64, .int .i64] l], .ref [.int .i64 step], .ref [.int .i64 t]])] [] =
  L tab C 89 [] [.lp [1, 1, 0, 0]] (S89_1100b l step t 0 n_) := by kernel_rfl
theorem e89_1100b (C : CallF) (f_c0_r0 : List PV) (f_c1_r0 : Int) (f_c2_r0 : Int) (i' : Int) (j' : Int) : R tab C 89 [] [.lp [1, 1, 0, 0]] (S89_1100b f_c0_r0 f_c1_r0 f_c2_r0 i' j') =
  bif (decide (i' < j')) then
    (C 92 [.p (.int .i64 (IntKind.i64.wrap ((IntKind.u64.wrap (IntKind.i64.wrap (i' + j'))).fdiv (2 ^ 1)))), .p (.ref [.list true [.int .i64, .int .i64] f_c0_r0]), .p (.ref [.int .i64 f_c1_r0]), .p (.ref [.int .i64 f_c2_r0])] []).bind fun r1 =>
    bif (!(r1.1.headD .undef).pv.toBool) then
      L tab C 89 [] [.lp [1, 1, 0, 0]] (S89_1100b f_c0_r0 f_c1_r0 f_c2_r0 (IntKind.i64.wrap ((IntKind.i64.wrap ((IntKind.u64.wrap (IntKind.i64.wrap (i' + j'))).fdiv (2 ^ 1))) + (1 : Int))) j')
    else
      L tab C 89 [] [.lp [1, 1, 0, 0]] (S89_1100b f_c0_r0 f_c1_r0 f_c2_r0 i' (IntKind.i64.wrap ((IntKind.u64.wrap (IntKind.i64.wrap (i' + j'))).fdiv (2 ^ 1))))
  else
    some ([.p (.int .i64 i')], []) := by kernel_rfl
theorem e90 (C : CallF) (k : Int) (c0 : List PV) (c1 : Int) (c2 : Int) : acallI tab C 90 [.p (.int .i64 k), .p (.ref [.list true [.int .i64, .int .i64] c0]), .p (.ref [.int .i64 c1]), .p (.ref [.int .i64 c2])] [] =
  (C 91 [.p (.list true [.int .i64, .int .i64] c0), .p (.int .i64 (IntKind.i64.wrap (k * c1)))] []).bind fun r1 =>
  some ([.p (.bool (decide (((r1.1.headD .undef).pv.toInt) ≥ c2)))], []) := by kernel_rfl
theorem e91 (C : CallF) (l : List PV) (tick : Int) : acallI tab C 91 [.p (.list true [.int .i64, .int .i64] l), .p (.int .i64 tick)] [] =
  (C 129 [.p (.list true [.int .i64, .int .i64] l), .p (.int .i64 tick)] []).bind fun r1 =>
  some ([.p (.int .i64 (IntKind.i64.wrap ((IntKind.i64.wrap ((r1.1.headD .undef).pv.toInt + (240000 : Int))).tdiv (480000 : Int))))], []) := by kernel_rfl
theorem e92 (C : CallF) (k : Int) (c0 : List PV) (c1 : Int) (c2 : Int) : acallI tab C 92 [.p (.int .i64 k), .p (.ref [.list true [.int .i64, .int .i64] c0]), .p (.ref [.int .i64 c1]), .p (.ref [.int .i64 c2])] [] =
  (C 91 [.p (.list true [.int .i64, .int .i64] c0), .p (.int .i64 (IntKind.i64.wrap (k * c1)))] []).bind fun r1 =>
  some ([.p (.bool (decide (((r1.1.headD .undef).pv.toInt) ≥ c2)))], []) := by kernel_rfl
theorem e93 (C : CallF) (l : List PV) (tick : Int) : acallI tab C 93 [.p (.list true [.int .i64, .int .i64] l), .p (.int .i64 tick)] [] =
  (C 127 [.p (.list true [.int .i64, .int .i64] l)] []).bind fun r1 =>
  bif (!(r1.1.headD .undef).pv.toBool) then
    some ([.p (.int .i64 0), .p (.int .i64 2)], [])
  else
    (C 128 [.p (.int .i64 tick), .p (.int .i64 0), .p (.int .i64 4194304)] []).bind fun r2 =>
    bif (!(r2.1.headD .undef).pv.toBool) then
      some ([.p (.int .i64 0), .p (.int .i64 3)], [])
    else
      (C 129 [.p (.list true [.int .i64, .int .i64] l), .p (.int .i64 tick)] []).bind fun r3 =>
      some ([.p (.int .i64 ((r3.1.headD .undef).pv.toInt)), .p (.int .i64 0)], []) := by kernel_rfl
theorem e95 (C : CallF) (n_ : Int) (low : Int) (high : Int) : acallI tab C 95 [.p (.int .i64 n_), .p (.int .i64 low), .p (.int .i64 high)] [] =
  bif (decide (n_ ≥ low)) then
    some ([.p (.bool (decide (n_ ≤ high)))], [])
  else
    some ([.p (.bool false)], []) := by kernel_rfl
def S96_111100 (l' : List PV) (time' : Int) (low' : Int) (high' : Int) : St := ⟨(.p (.list true [.int .i64, .int .i64] l')) :: (.p (.int .i64 time')) :: .undef :: .undef :: .undef :: .undef :: (.p (.int .i64 low')) :: (.p (.int .i64 high')) :: List.replicate 24 .undef, []⟩
theorem e96 (C : CallF) (l : List PV) (time : Int) : acallI tab C 96 [.p (.list true [.int .i64, .int .i64] l), .p (.int .i64 time)] [] =
  (C 67 [.p (.list true [.int .i64, .int .i64] l)] []).bind fun r1 =>
  bif (!(r1.1.headD .undef).pv.toBool) then
    some ([.p (.int .i64 0), .p (.int .i64 2)], [])
  else
    (C 95 [.p (.int .i64 time), .p (.int .i64 0), .p (.int .i64 3600000)] []).bind fun r2 =>
    bif (!(r2.1.headD .undef).pv.toBool) then
      some ([.p (.int .i64 0), .p (.int .i64 3)], [])
    else
      L tab C 96 [] [.lp [1, 1, 1, 1, 0, 0]] (S96_111100 l time 0 4194305) := by kernel_rfl
theorem e96_111100 (C : CallF) (l' : List PV) (time' : Int) (low' : Int) (high' : Int) : R tab C 96 [] [.lp [1, 1, 1, 1, 0, 0]] (S96_111100 l' time' low' high') =
  bif (decide ((IntKind.i64.wrap (high' - low')) > (1 : Int))) then
    (C 99 [.p (.list true [.int .i64, .int .i64] l'), .p (.int .i64 (IntKind.i64.wrap ((IntKind.i64.wrap (low' + high')).tdiv (2 : Int))))] []).bind fun r1 =>
    (C 98 [.p (.int .i64 ((r1.1.headD .undef).pv.toInt))] []).bind fun r2 =>
    bif (decide (((r2.1.headD .undef).pv.toInt) ≤ time')) then
      L tab C 96 [] [.lp [1, 1, 1, 1, 0, 0]] (S96_111100 l' time' (IntKind.i64.wrap ((IntKind.i64.wrap (low' + high')).tdiv (2 : Int))) high')
    else
      L tab C 96 [] [.lp [1, 1, 1, 1, 0, 0]] (S96_111100 l' time' low' (IntKind.i64.wrap ((IntKind.i64.wrap (low' + high')).tdiv (2 : Int))))
  else
    some ([.p (.int .i64 low'), .p (.int .i64 0)], []) := by kernel_rfl
theorem e97 (C : CallF) (a : Int) (b : Int) : acallI tab C 97 [.p (.int .i64 a), .p (.int .i64 b)] [] =
  bif (decide (a < b)) then
    some ([.p (.int .i64 (IntKind.i64.wrap (b - a)))], [])
  else
    some ([.p (.int .i64 (IntKind.i64.wrap (a - b)))], []) := by kernel_rfl
theorem e98 (C : CallF) (x : Int) : acallI tab C 98 [.p (.int .i64 x)] [] =
  some ([.p (.int .i64 (IntKind.i64.wrap ((IntKind.i64.wrap ((IntKind.i64.wrap ((2 : Int) * x)) + (480000 : Int))).tdiv (960000 : Int))))], []) := by kernel_rfl
def S99_11010 (l' : List PV) (tick' : Int) (sum' : Int) (i' : Int) : St := ⟨(.p (.list true [.int .i64, .int .i64] l')) :: (.p (.int .i64 tick')) :: .undef :: .undef :: .undef :: (.p (.int .i64 sum')) :: (.p (.int .i64 i')) :: List.replicate 38 .undef, []⟩
theorem e99 (C : CallF) (l : List PV) (tick : Int) : acallI tab C 99 [.p (.list true [.int .i64, .int .i64] l), .p (.int .i64 tick)] [] =
  L tab C 99 [] [.lp [1, 1, 0, 1, 0]] (S99_11010 l tick 0 0) := by kernel_rfl
theorem e99_11010 (C : CallF) (l' : List PV) (tick' : Int) (sum' : Int) (i' : Int) : R tab C 99 [] [.lp [1, 1, 0, 1, 0]] (S99_11010 l' tick' sum' i') =
  bif (decide (i' < ((l'.length : Nat) : Int))) then
    bif (decide ((IntKind.i64.wrap (i' + (1 : Int))) < ((l'.length : Nat) : Int))) then
      bif ((decide ((0 : Int) ≤ (IntKind.i64.wrap (i' + (1 : Int))))) && (decide ((IntKind.i64.wrap (i' + (1 : Int))) < ((l'.length : Nat) : Int)))) then bif ((decide ((0 : Int) ≤ i')) && (decide (i' < ((l'.length : Nat) : Int)))) then bif ((decide ((0 : Int) ≤ i')) && (decide (i' < ((l'.length : Nat) : Int)))) then L tab C 99 [] [.lp [1, 1, 0, 1, 0]] (S99_11010 l' tick' (IntKind.i64.wrap (sum' + (IntKind.i64.wrap ((goMax 0 (IntKind.i64.wrap ((goMin tick' (((l'.getD ((IntKind.i64.wrap (i' + (1 : Int))).toNat) .nil).cell 0).toInt)) - ((l'.getD i'.toNat .nil).cell 0).toInt))) * ((l'.getD i'.toNat .nil).cell 1).toInt)))) (IntKind.i64.wrap (i' + (1 : Int)))) else none else none else none
    else
      bif ((decide ((0 : Int) ≤ i')) && (decide (i' < ((l'.length : Nat) : Int)))) then bif ((decide ((0 : Int) ≤ i')) && (decide (i' < ((l'.length : Nat) : Int)))) then L tab C 99 [] [.lp [1, 1, 0, 1, 0]] (S99_11010 l' tick' (IntKind.i64.wrap (sum' + (IntKind.i64.wrap ((goMax 0 (IntKind.i64.wrap (tick' - ((l'.getD i'.toNat .nil).cell 0).toInt))) * ((l'.getD i'.toNat .nil).cell 1).toInt)))) (IntKind.i64.wrap (i' + (1 : Int)))) else none else none
  else
    some ([.p (.int .i64 sum')], []) := by kernel_rfl
theorem e100 (C : CallF) (l : List PV) (tick : Int) : acallI tab C 100 [.p (.list true [.int .i64, .int .i64] l), .p (.int .i64 tick)] [] =
  (C 67 [.p (.list true [.int .i64, .int .i64] l)] []).bind fun r1 =>
  bif (!(r1.1.headD .undef).pv.toBool) then
    some ([.p (.int .i64 0), .p (.int .i64 2)], [])
  else
    (C 95 [.p (.int .i64 tick), .p (.int .i64 0), .p (.int .i64 4194304)] []).bind fun r2 =>
    bif (!(r2.1.headD .undef).pv.toBool) then
      some ([.p (.int .i64 0), .p (.int .i64 3)], [])
    else
      (C 99 [.p (.list true [.int .i64, .int .i64] l), .p (.int .i64 tick)] []).bind fun r3 =>
      some ([.p (.int .i64 ((r3.1.headD .undef).pv.toInt)), .p (.int .i64 0)], []) := by kernel_rfl
theorem e113 (C : CallF) (x : Int) : acallI tab C 113 [.p (.int .i64 x)] [] =
  some ([.p (.bool (x != x))], []) := by kernel_rfl
def S115_1010 (a' : Int) (b' : Int) (num' : Int) (den' : Int) (n_' : Int) : St := ⟨(.p (.int .i64 a')) :: (.p (.int .i64 b')) :: (.p (.int .i64 num')) :: (.p (.int .i64 den')) :: .undef :: .undef :: .undef :: .undef :: .undef :: (.p (.int .i64 n_')) :: List.replicate 31 .undef, []⟩
theorem e115 (C : CallF) (a : Int) (b : Int) (num : Int) (den : Int) : acallI tab C 115 [.p (.int .i64 a), .p (.int .i64 b), .p (.int .i64 num), .p (.int .i64 den)] [] =
  L tab C 115 [] [.lp [1, 0, 1, 0]] (S115_1010 a b num den 0) := by kernel_rfl
theorem e115_1010 (C : CallF) (a' : Int) (b' : Int) (num' : Int) (den' : Int) (n_' : Int) : R tab C 115 [] [.lp [1, 0, 1, 0]] (S115_1010 a' b' num' den' n_') =
  bif (leI n_' (255 : Int)) then
    bif (leI (IntKind.i64.wrap (0 - den')) (IntKind.i64.wrap ((IntKind.i64.wrap ((2 : Int) * (IntKind.i64.wrap ((IntKind.i64.wrap (a' * den')) + (IntKind.i64.wrap ((IntKind.i64.wrap (b' - a')) * num')))))) - (IntKind.i64.wrap ((IntKind.i64.wrap ((2 : Int) * n_')) * den'))))) then
      bif (ltI (IntKind.i64.wrap ((IntKind.i64.wrap ((2 : Int) * (IntKind.i64.wrap ((IntKind.i64.wrap (a' * den')) + (IntKind.i64.wrap ((IntKind.i64.wrap (b' - a')) * num')))))) - (IntKind.i64.wrap ((IntKind.i64.wrap ((2 : Int) * n_')) * den')))) den') then
        some ([.p (.int .u8 (IntKind.u8.wrap n_'))], [])
      else
        L tab C 115 [] [.lp [1, 0, 1, 0]] (S115_1010 a' b' num' den' (IntKind.i64.wrap (n_' + (1 : Int))))
    else
      L tab C 115 [] [.lp [1, 0, 1, 0]] (S115_1010 a' b' num' den' (IntKind.i64.wrap (n_' + (1 : Int))))
  else
    some ([.p (.int .u8 0)], []) := by kernel_rfl
def S127_1010 (l' : List PV) (t5' : List PV) (t6' : Int) (t7' : Int) : St := ⟨(.p (.list true [.int .i64, .int .i64] l')) :: .undef :: .undef :: .undef :: .undef :: (.p (.list true [.int .i64, .int .i64] t5')) :: (.p (.int .i64 t6')) :: (.p (.int .i64 t7')) :: List.replicate 44 .undef, []⟩
theorem e127 (C : CallF) (l : List PV) : acallI tab C 127 [.p (.list true [.int .i64, .int .i64] l)] [] =
  L tab C 127 [] [.lp [1, 0, 1, 0]] (S127_1010 l l ((l.length : Nat) : Int) 0) := by kernel_rfl
theorem e127_1010 (C : CallF) (l' : List PV) (t5' : List PV) (t6' : Int) (t7' : Int) : R tab C 127 [] [.lp [1, 0, 1, 0]] (S127_1010 l' t5' t6' t7') =
  bif (decide (t7' < t6')) then
    bif ((decide ((0 : Int) ≤ t7')) && (decide (t7' < ((t5'.length : Nat) : Int)))) then (C 128 [.p (.int .i64 (((t5'.getD t7'.toNat .nil).cell 1).toInt)), .p (.int .i64 100000), .p (.int .i64 6000000)] []).bind fun r1 =>
    bif (!(r1.1.headD .undef).pv.toBool) then
      some ([.p (.bool false)], [])
    else
      bif (decide ((((t5'.getD t7'.toNat .nil).cell 0).toInt) > (4194304 : Int))) then
        some ([.p (.bool false)], [])
      else
        bif (decide (t7' > (0 : Int))) then
          bif ((decide ((0 : Int) ≤ (IntKind.i64.wrap (t7' - (1 : Int))))) && (decide ((IntKind.i64.wrap (t7' - (1 : Int))) < ((l'.length : Nat) : Int)))) then bif (decide ((((t5'.getD t7'.toNat .nil).cell 0).toInt) ≤ (((l'.getD ((IntKind.i64.wrap (t7' - (1 : Int))).toNat) .nil).cell 0).toInt))) then
            some ([.p (.bool false)], [])
          else
            L tab C 127 [] [.lp [1, 0, 1, 0]] (S127_1010 l' t5' t6' (IntKind.i64.wrap (t7' + (1 : Int)))) else none
        else
          L tab C 127 [] [.lp [1, 0, 1, 0]] (S127_1010 l' t5' t6' (IntKind.i64.wrap (t7' + (1 : Int)))) else none
  else
    bif (decide (((l'.length : Nat) : Int) ≥ (1 : Int))) then
      bif (decide (((l'.length : Nat) : Int) ≤ (64 : Int))) then
        bif (decide ((0 : Int) < ((l'.length : Nat) : Int))) then some ([.p (.bool (((l'.getD 0 .nil).cell 0).toInt == (0 : Int)))], []) else none
      else
        some ([.p (.bool false)], [])
    else
      some ([.p (.bool false)], []) := by kernel_rfl
theorem e128 (C : CallF) (n_ : Int) (low : Int) (high : Int) : acallI tab C 128 [.p (.int .i64 n_), .p (.int .i64 low), .p (.int .i64 high)] [] =
  bif (decide (low ≤ n_)) then
    some ([.p (.bool (decide (n_ ≤ high)))], [])
  else
    some ([.p (.bool false)], []) := by kernel_rfl
def S129_11010 (l' : List PV) (tick' : Int) (sum' : Int) (at_' : Int) (t11' : List PV) (t12' : Int) (t13' : Int) : St := ⟨(.p (.list true [.int .i64, .int .i64] l')) :: (.p (.int .i64 tick')) :: .undef :: .undef :: .undef :: (.p (.int .i64 sum')) :: (.p (.int .i64 at_')) :: .undef :: .undef :: .undef :: .undef :: (.p (.list true [.int .i64, .int .i64] t11')) :: (.p (.int .i64 t12')) :: (.p (.int .i64 t13')) :: List.replicate 45 .undef, []⟩
theorem e129 (C : CallF) (l : List PV) (tick : Int) : acallI tab C 129 [.p (.list true [.int .i64, .int .i64] l), .p (.int .i64 tick)] [] =
  L tab C 129 [] [.lp [1, 1, 0, 1, 0]] (S129_11010 l tick 0 0 l ((l.length : Nat) : Int) 0) := by kernel_rfl
theorem e129_11010 (C : CallF) (l' : List PV) (tick' : Int) (sum' : Int) (at_' : Int) (t11' : List PV) (t12' : Int) (t13' : Int) : R tab C 129 [] [.lp [1, 1, 0, 1, 0]] (S129_11010 l' tick' sum' at_' t11' t12' t13') =
  bif (decide (t13' < t12')) then
    bif ((decide ((0 : Int) ≤ t13')) && (decide (t13' < ((t11'.length : Nat) : Int)))) then bif (decide (t13' > (0 : Int))) then
      bif (decide ((((t11'.getD t13'.toNat .nil).cell 0).toInt) ≥ tick')) then
        (C 155 [.p (.list true [.int .i64, .int .i64] l'), .p (.int .i64 tick'), .p (.fn 156 [])] []).bind fun r1 =>
        bif ((decide ((0 : Int) ≤ (goMax 0 (IntKind.i64.wrap ((r1.1.headD .undef).pv.toInt - (1 : Int)))))) && (decide ((goMax 0 (IntKind.i64.wrap ((r1.1.headD .undef).pv.toInt - (1 : Int)))) < ((l'.length : Nat) : Int)))) then some ([.p (.int .i64 (IntKind.i64.wrap (sum' + (IntKind.i64.wrap ((IntKind.i64.wrap (tick' - at_')) * ((l'.getD ((goMax 0 (IntKind.i64.wrap ((r1.1.headD .undef).pv.toInt - (1 : Int)))).toNat) .nil).cell 1).toInt)))))], []) else none
      else
        bif ((decide ((0 : Int) ≤ (IntKind.i64.wrap (t13' - (1 : Int))))) && (decide ((IntKind.i64.wrap (t13' - (1 : Int))) < ((l'.length : Nat) : Int)))) then L tab C 129 [] [.lp [1, 1, 0, 1, 0]] (S129_11010 l' tick' (IntKind.i64.wrap (sum' + (IntKind.i64.wrap ((IntKind.i64.wrap (((t11'.getD t13'.toNat .nil).cell 0).toInt - at_')) * ((l'.getD ((IntKind.i64.wrap (t13' - (1 : Int))).toNat) .nil).cell 1).toInt)))) (((t11'.getD t13'.toNat .nil).cell 0).toInt) t11' t12' (IntKind.i64.wrap (t13' + (1 : Int)))) else none
    else
      L tab C 129 [] [.lp [1, 1, 0, 1, 0]] (S129_11010 l' tick' sum' at_' t11' t12' (IntKind.i64.wrap (t13' + (1 : Int)))) else none
  else
    (C 155 [.p (.list true [.int .i64, .int .i64] l'), .p (.int .i64 tick'), .p (.fn 156 [])] []).bind fun r2 =>
    bif ((decide ((0 : Int) ≤ (goMax 0 (IntKind.i64.wrap ((r2.1.headD .undef).pv.toInt - (1 : Int)))))) && (decide ((goMax 0 (IntKind.i64.wrap ((r2.1.headD .undef).pv.toInt - (1 : Int)))) < ((l'.length : Nat) : Int)))) then some ([.p (.int .i64 (IntKind.i64.wrap (sum' + (IntKind.i64.wrap ((IntKind.i64.wrap (tick' - at_')) * ((l'.getD ((goMax 0 (IntKind.i64.wrap ((r2.1.headD .undef).pv.toInt - (1 : Int)))).toNat) .nil).cell 1).toInt)))))], []) else none := by kernel_rfl
def S155_11100 (x' : List PV) (target' : Int) (n_' : Int) (i' : Int) (j' : Int) : St := ⟨(.p (.list true [.int .i64, .int .i64] x')) :: (.p (.int .i64 target')) :: (.p (.fn 156 [])) :: .undef :: .undef :: .undef :: .undef :: .undef :: (.p (.int .i64 n_')) :: (.p (.int .i64 i')) :: (.p (.int .i64 j')) :: List.replicate 38 .undef, []⟩
theorem e155 (C : CallF) (x : List PV) (target : Int) : acallI tab C 155 [.p (.list true [.int .i64, .int .i64] x), .p (.int .i64 target), .p (.fn 156 [])] [] =
  L tab C 155 [] [.lp [1, 1, 1, 0, 0]] (S155_11100 x target ((x.length : Nat) : Int) 0 ((x.length : Nat) : Int)) := by kernel_rfl
theorem e155_11100 (C : CallF) (x' : List PV) (target' : Int) (n_' : Int) (i' : Int) (j' : Int) : R tab C 155 [] [.lp [1, 1, 1, 0, 0]] (S155_11100 x' target' n_' i' j') =
  bif (decide (i' < j')) then
    bif ((decide ((0 : Int) ≤ (IntKind.i64.wrap ((IntKind.u64.wrap (IntKind.i64.wrap (i' + j'))).fdiv (2 ^ 1))))) && (decide ((IntKind.i64.wrap ((IntKind.u64.wrap (IntKind.i64.wrap (i' + j'))).fdiv (2 ^ 1))) < ((x'.length : Nat) : Int)))) then (C 156 [.p (.agg [.int .i64 (((x'.getD ((IntKind.i64.wrap ((IntKind.u64.wrap (IntKind.i64.wrap (i' + j'))).fdiv (2 ^ 1))).toNat) .nil).cell 0).toInt), .int .i64 (((x'.getD ((IntKind.i64.wrap ((IntKind.u64.wrap (IntKind.i64.wrap (i' + j'))).fdiv (2 ^ 1))).toNat) .nil).cell 1).toInt)]), .p (.int .i64 target')] []).bind fun r1 =>
    bif (decide (((r1.1.headD .undef).pv.toInt) < (0 : Int))) then
      L tab C 155 [] [.lp [1, 1, 1, 0, 0]] (S155_11100 x' target' n_' (IntKind.i64.wrap ((IntKind.i64.wrap ((IntKind.u64.wrap (IntKind.i64.wrap (i' + j'))).fdiv (2 ^ 1))) + (1 : Int))) j')
    else
      L tab C 155 [] [.lp [1, 1, 1, 0, 0]] (S155_11100 x' target' n_' i' (IntKind.i64.wrap ((IntKind.u64.wrap (IntKind.i64.wrap (i' + j'))).fdiv (2 ^ 1)))) else none
  else
    bif (decide (i' < n_')) then
      bif ((decide ((0 : Int) ≤ i')) && (decide (i' < ((x'.length : Nat) : Int)))) then (C 156 [.p (.agg [.int .i64 (((x'.getD i'.toNat .nil).cell 0).toInt), .int .i64 (((x'.getD i'.toNat .nil).cell 1).toInt)]), .p (.int .i64 target')] []).bind fun r2 =>
      some ([.p (.int .i64 i'), .p (.bool ((r2.1.headD .undef).pv.toInt == (0 : Int)))], []) else none
    else
      some ([.p (.int .i64 i'), .p (.bool false)], []) := by kernel_rfl
theorem e156 (C : CallF) (x_0 : Int) (x_1 : Int) (tick : Int) : acallI tab C 156 [.p (.agg [.int .i64 x_0, .int .i64 x_1]), .p (.int .i64 tick)] [] =
  some ([.p (.int .i64 (IntKind.i64.wrap (x_0 - tick)))], []) := by kernel_rfl
end Go.Skm.Cue
