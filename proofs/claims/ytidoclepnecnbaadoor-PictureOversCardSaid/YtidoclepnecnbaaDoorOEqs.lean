/-
  What the machine does in each function of this program, and in each round of each loop; no condition.
-/
import Derived.Test.YtidoclepnecnbaaDoorOSkmE
import Derived.Test.YtidoclepnecnbaaDoorOTab
import Derived.KernelRfl
set_option maxRecDepth 100000
namespace Go.Skm.Pio
open Go Go.Skm
theorem e3 (C : CallF) (p_0 : Int) (p_1 : Int) (p_2 : Int) (p_3 : Int) (p_4 : Int) (p_5 : List PV) : acallI tab C 3 [.p (.agg [.int .i64 p_0, .int .i64 p_1, .int .u8 p_2, .int .u8 p_3, .int .u8 p_4, .list true [.int .i64, .int .i64, .int .i64, .int .u8, .int .u8, .int .u8] p_5])] [] =
  bif (gtI ((p_5.length : Nat) : Int) (4100 : Int)) then
    (C 10 [] []).bind fun r1 =>
    some ([.p (.bool ((r1.1.headD .undef).pv.toBool))], [])
  else
    (C 11 [.p (.agg [.int .i64 p_0, .int .i64 p_1, .int .u8 p_2, .int .u8 p_3, .int .u8 p_4, .list true [.int .i64, .int .i64, .int .i64, .int .u8, .int .u8, .int .u8] p_5])] []).bind fun r2 =>
    (C 12 [.p (.agg [.int .i64 p_0, .int .i64 p_1, .int .u8 p_2, .int .u8 p_3, .int .u8 p_4, .list true [.int .i64, .int .i64, .int .i64, .int .u8, .int .u8, .int .u8] p_5])] []).bind fun r3 =>
    bif ((r2.1.headD .undef).pv.toBool == (r3.1.headD .undef).pv.toBool) then
      (C 10 [] []).bind fun r4 =>
      some ([.p (.bool ((r4.1.headD .undef).pv.toBool))], [])
    else
      some ([.p (.bool false)], []) := by kernel_rfl
theorem e4 (C : CallF) (p_0 : Int) (p_1 : Int) (p_2 : Int) (p_3 : Int) (p_4 : Int) (p_5 : List PV) : acallI tab C 4 [.p (.agg [.int .i64 p_0, .int .i64 p_1, .int .u8 p_2, .int .u8 p_3, .int .u8 p_4, .list true [.int .i64, .int .i64, .int .i64, .int .u8, .int .u8, .int .u8] p_5])] [] =
  (C 13 [.p (.agg [.int .i64 p_0, .int .i64 p_1, .int .u8 p_2, .int .u8 p_3, .int .u8 p_4, .list true [.int .i64, .int .i64, .int .i64, .int .u8, .int .u8, .int .u8] p_5])] []).bind fun r1 =>
  bif (!(r1.1.headD .undef).pv.toBool) then
    (C 10 [] []).bind fun r2 =>
    some ([.p (.bool ((r2.1.headD .undef).pv.toBool))], [])
  else
    (C 14 [.p (.agg [.int .i64 p_0, .int .i64 p_1, .int .u8 p_2, .int .u8 p_3, .int .u8 p_4, .list true [.int .i64, .int .i64, .int .i64, .int .u8, .int .u8, .int .u8] p_5])] []).bind fun r3 =>
    (C 15 [.p (.agg [.int .i64 p_0, .int .i64 p_1, .int .u8 p_2, .int .u8 p_3, .int .u8 p_4, .list true [.int .i64, .int .i64, .int .i64, .int .u8, .int .u8, .int .u8] p_5])] []).bind fun r4 =>
    bif (!(((r3.1.headD .undef).pv.toStr).toList == ((r4.1.headD .undef).pv.toStr).toList)) then
      some ([.p (.bool false)], [])
    else
      bif ((r3.1.tail.headD .undef).pv.toInt != (r4.1.tail.headD .undef).pv.toInt) then
        some ([.p (.bool false)], [])
      else
        bif ((r4.1.tail.headD .undef).pv.toInt != (0 : Int)) then
          (C 10 [] []).bind fun r5 =>
          some ([.p (.bool ((r5.1.headD .undef).pv.toBool))], [])
        else
          (C 16 [.p (.str ((r4.1.headD .undef).pv.toStr))] []).bind fun r6 =>
          bif ((r6.1.tail.headD .undef).pv.toInt == (0 : Int)) then
            (C 17 [.p (.agg [.int .i64 p_0, .int .i64 p_1, .int .u8 p_2, .int .u8 p_3, .int .u8 p_4, .list true [.int .i64, .int .i64, .int .i64, .int .u8, .int .u8, .int .u8] p_5]), .p (.agg [.int .i64 (((r6.1.headD .undef).pv.cell 0).toInt), .int .i64 (((r6.1.headD .undef).pv.cell 1).toInt), .int .u8 (((r6.1.headD .undef).pv.cell 2).toInt), .int .u8 (((r6.1.headD .undef).pv.cell 3).toInt), .int .u8 (((r6.1.headD .undef).pv.cell 4).toInt), .list true [.int .i64, .int .i64, .int .i64, .int .u8, .int .u8, .int .u8] (((r6.1.headD .undef).pv.cell 5).toList)])] []).bind fun r7 =>
            bif (r7.1.headD .undef).pv.toBool then
              (C 10 [] []).bind fun r8 =>
              some ([.p (.bool ((r8.1.headD .undef).pv.toBool))], [])
            else
              some ([.p (.bool false)], [])
          else
            some ([.p (.bool false)], []) := by kernel_rfl
theorem e5 (C : CallF) (s : ByteArray) : acallI tab C 5 [.p (.str s)] [] =
  bif (gtI ((s.size : Nat) : Int) (1000 : Int)) then
    (C 10 [] []).bind fun r1 =>
    some ([.p (.bool ((r1.1.headD .undef).pv.toBool))], [])
  else
    (C 16 [.p (.str s)] []).bind fun r2 =>
    (C 18 [.p (.str s)] []).bind fun r3 =>
    (C 17 [.p (.agg [.int .i64 (((r2.1.headD .undef).pv.cell 0).toInt), .int .i64 (((r2.1.headD .undef).pv.cell 1).toInt), .int .u8 (((r2.1.headD .undef).pv.cell 2).toInt), .int .u8 (((r2.1.headD .undef).pv.cell 3).toInt), .int .u8 (((r2.1.headD .undef).pv.cell 4).toInt), .list true [.int .i64, .int .i64, .int .i64, .int .u8, .int .u8, .int .u8] (((r2.1.headD .undef).pv.cell 5).toList)]), .p (.agg [.int .i64 (((r3.1.headD .undef).pv.cell 0).toInt), .int .i64 (((r3.1.headD .undef).pv.cell 1).toInt), .int .u8 (((r3.1.headD .undef).pv.cell 2).toInt), .int .u8 (((r3.1.headD .undef).pv.cell 3).toInt), .int .u8 (((r3.1.headD .undef).pv.cell 4).toInt), .list true [.int .i64, .int .i64, .int .i64, .int .u8, .int .u8, .int .u8] (((r3.1.headD .undef).pv.cell 5).toList)])] []).bind fun r4 =>
    bif (r4.1.headD .undef).pv.toBool then
      bif ((r2.1.tail.headD .undef).pv.toInt == (r3.1.tail.headD .undef).pv.toInt) then
        (C 10 [] []).bind fun r5 =>
        some ([.p (.bool ((r5.1.headD .undef).pv.toBool))], [])
      else
        some ([.p (.bool false)], [])
    else
      some ([.p (.bool false)], []) := by kernel_rfl
def S6_11010100 (many' : Int) (l_o : Nat) (l_l : Nat) (a_b0 : Int) (a_b1 : Int) (a_b2 : Int) (a_b3 : Int) (a_b4 : Int) (a_b5 : List PV) (b_b0 : Int) (b_b1 : Int) (b_b2 : Int) (b_b3 : Int) (b_b4 : Int) (b_b5 : List PV) (l_b : List PV) : St := ⟨.undef :: .undef :: (.p (.int .i64 many')) :: (.ptr 3 0 0) :: (.ptr 4 0 0) :: .undef :: .undef :: (.slice 7 6 l_o l_l) :: List.replicate 96 .undef, [(3, .box [.p (.int .i64 a_b0), .p (.int .i64 a_b1), .p (.int .u8 a_b2), .p (.int .u8 a_b3), .p (.int .u8 a_b4), .p (.list true [.int .i64, .int .i64, .int .i64, .int .u8, .int .u8, .int .u8] a_b5)]), (4, .box [.p (.int .i64 b_b0), .p (.int .i64 b_b1), .p (.int .u8 b_b2), .p (.int .u8 b_b3), .p (.int .u8 b_b4), .p (.list true [.int .i64, .int .i64, .int .i64, .int .u8, .int .u8, .int .u8] b_b5)]), (7, .arr true [.int .i64, .int .i64, .int .i64, .int .u8, .int .u8, .int .u8] l_b)]⟩
def S6_1111111010 (i' : Int) (a_b0 : Int) (a_b1 : Int) (a_b2 : Int) (a_b3 : Int) (a_b4 : Int) (a_b5 : List PV) (b_b0 : Int) (b_b1 : Int) (b_b2 : Int) (b_b3 : Int) (b_b4 : Int) (b_b5 : List PV) (b53_b : List PV) (b55_b : List PV) (x_b0 : Int) (x_b1 : Int) (x_b2 : Int) (x_b3 : Int) (x_b4 : Int) (x_b5_o : Nat) (x_b5_l : Nat) (y_b0 : Int) (y_b1 : Int) (y_b2 : Int) (y_b3 : Int) (y_b4 : Int) (y_b5_o : Nat) (y_b5_l : Nat) (b59_b : List PV) (p_b0 : Int) (p_b1 : Int) (p_b2 : Int) (p_b3 : Int) (p_b4 : Int) (p_b5_o : Nat) (p_b5_l : Nat) : St := ⟨.undef :: .undef :: .undef :: (.ptr 3 0 0) :: (.ptr 4 0 0) :: .undef :: .undef :: .undef :: (.ptr 8 0 0) :: (.ptr 9 0 0) :: (.ptr 10 0 0) :: .undef :: .undef :: .undef :: (.p (.int .i64 i')) :: List.replicate 89 .undef, [(3, .box [.p (.int .i64 a_b0), .p (.int .i64 a_b1), .p (.int .u8 a_b2), .p (.int .u8 a_b3), .p (.int .u8 a_b4), .p (.list true [.int .i64, .int .i64, .int .i64, .int .u8, .int .u8, .int .u8] a_b5)]), (4, .box [.p (.int .i64 b_b0), .p (.int .i64 b_b1), .p (.int .u8 b_b2), .p (.int .u8 b_b3), .p (.int .u8 b_b4), .p (.list true [.int .i64, .int .i64, .int .i64, .int .u8, .int .u8, .int .u8] b_b5)]), (53, .arr true [.int .i64, .int .i64, .int .i64, .int .u8, .int .u8, .int .u8] b53_b), (55, .arr true [.int .i64, .int .i64, .int .i64, .int .u8, .int .u8, .int .u8] b55_b), (8, .box [.p (.int .i64 x_b0), .p (.int .i64 x_b1), .p (.int .u8 x_b2), .p (.int .u8 x_b3), .p (.int .u8 x_b4), .slice 53 6 x_b5_o x_b5_l]), (9, .box [.p (.int .i64 y_b0), .p (.int .i64 y_b1), .p (.int .u8 y_b2), .p (.int .u8 y_b3), .p (.int .u8 y_b4), .slice 55 6 y_b5_o y_b5_l]), (59, .arr true [.int .i64, .int .i64, .int .i64, .int .u8, .int .u8, .int .u8] b59_b), (10, .box [.p (.int .i64 p_b0), .p (.int .i64 p_b1), .p (.int .u8 p_b2), .p (.int .u8 p_b3), .p (.int .u8 p_b4), .slice 59 6 p_b5_o p_b5_l])]⟩
def S6_1111111010_s1 (i' : Int) (a_b0 : Int) (a_b1 : Int) (a_b2 : Int) (a_b3 : Int) (a_b4 : Int) (a_b5_o : Nat) (a_b5_l : Nat) (b_b0 : Int) (b_b1 : Int) (b_b2 : Int) (b_b3 : Int) (b_b4 : Int) (b_b5 : List PV) (l_b : List PV) (b53_b : List PV) (b55_b : List PV) (x_b0 : Int) (x_b1 : Int) (x_b2 : Int) (x_b3 : Int) (x_b4 : Int) (x_b5_o : Nat) (x_b5_l : Nat) (y_b0 : Int) (y_b1 : Int) (y_b2 : Int) (y_b3 : Int) (y_b4 : Int) (y_b5_o : Nat) (y_b5_l : Nat) (b59_b : List PV) (p_b0 : Int) (p_b1 : Int) (p_b2 : Int) (p_b3 : Int) (p_b4 : Int) (p_b5_o : Nat) (p_b5_l : Nat) : St := ⟨.undef :: .undef :: .undef :: (.ptr 3 0 0) :: (.ptr 4 0 0) :: .undef :: .undef :: .undef :: (.ptr 8 0 0) :: (.ptr 9 0 0) :: (.ptr 10 0 0) :: .undef :: .undef :: .undef :: (.p (.int .i64 i')) :: List.replicate 89 .undef, [(3, .box [.p (.int .i64 a_b0), .p (.int .i64 a_b1), .p (.int .u8 a_b2), .p (.int .u8 a_b3), .p (.int .u8 a_b4), .slice 7 6 a_b5_o a_b5_l]), (4, .box [.p (.int .i64 b_b0), .p (.int .i64 b_b1), .p (.int .u8 b_b2), .p (.int .u8 b_b3), .p (.int .u8 b_b4), .p (.list true [.int .i64, .int .i64, .int .i64, .int .u8, .int .u8, .int .u8] b_b5)]), (7, .arr true [.int .i64, .int .i64, .int .i64, .int .u8, .int .u8, .int .u8] l_b), (53, .arr true [.int .i64, .int .i64, .int .i64, .int .u8, .int .u8, .int .u8] b53_b), (55, .arr true [.int .i64, .int .i64, .int .i64, .int .u8, .int .u8, .int .u8] b55_b), (8, .box [.p (.int .i64 x_b0), .p (.int .i64 x_b1), .p (.int .u8 x_b2), .p (.int .u8 x_b3), .p (.int .u8 x_b4), .slice 53 6 x_b5_o x_b5_l]), (9, .box [.p (.int .i64 y_b0), .p (.int .i64 y_b1), .p (.int .u8 y_b2), .p (.int .u8 y_b3), .p (.int .u8 y_b4), .slice 55 6 y_b5_o y_b5_l]), (59, .arr true [.int .i64, .int .i64, .int .i64, .int .u8, .int .u8, .int .u8] b59_b), (10, .box [.p (.int .i64 p_b0), .p (.int .i64 p_b1), .p (.int .u8 p_b2), .p (.int .u8 p_b3), .p (.int .u8 p_b4), .slice 59 6 p_b5_o p_b5_l])]⟩
theorem e6 (C : CallF) (a_0 : Int) (a_1 : Int) (a_2 : Int) (a_3 : Int) (a_4 : Int) (a_5 : List PV) (b_0 : Int) (b_1 : Int) (b_2 : Int) (b_3 : Int) (b_4 : Int) (b_5 : List PV) (many : Int) : acallI tab C 6 [.p (.agg [.int .i64 a_0, .int .i64 a_1, .int .u8 a_2, .int .u8 a_3, .int .u8 a_4, .list true [.int .i64, .int .i64, .int .i64, .int .u8, .int .u8, .int .u8] a_5]), .p (.agg [.int .i64 b_0, .int .i64 b_1, .int .u8 b_2, .int .u8 b_3, .int .u8 b_4, .list true [.int .i64, .int .i64, .int .i64, .int .u8, .int .u8, .int .u8] b_5]), .p (.int .i64 many)] [] =
  (C 13 [.p (.agg [.int .i64 a_0, .int .i64 a_1, .int .u8 a_2, .int .u8 a_3, .int .u8 a_4, .list true [.int .i64, .int .i64, .int .i64, .int .u8, .int .u8, .int .u8] a_5])] []).bind fun r1 =>
  bif (!(r1.1.headD .undef).pv.toBool) then
    (C 10 [] []).bind fun r2 =>
    some ([.p (.bool ((r2.1.headD .undef).pv.toBool))], [])
  else
    (C 13 [.p (.agg [.int .i64 b_0, .int .i64 b_1, .int .u8 b_2, .int .u8 b_3, .int .u8 b_4, .list true [.int .i64, .int .i64, .int .i64, .int .u8, .int .u8, .int .u8] b_5])] []).bind fun r3 =>
    bif (!(r3.1.headD .undef).pv.toBool) then
      (C 10 [] []).bind fun r4 =>
      some ([.p (.bool ((r4.1.headD .undef).pv.toBool))], [])
    else
      bif (geI many (4090 : Int)) then
        bif (leI many (4100 : Int)) then
          bif (gtI ((a_5.length : Nat) : Int) (0 : Int)) then
            bif (leN a_5.length 2147483648) then L tab C 6 [] [.lp [1, 1, 0, 1, 0, 1, 0, 0]] (S6_11010100 many 0 a_5.length a_0 a_1 a_2 a_3 a_4 a_5 b_0 b_1 b_2 b_3 b_4 b_5 a_5) else none
          else
            (C 19 [.p (.agg [.int .i64 a_0, .int .i64 a_1, .int .u8 a_2, .int .u8 a_3, .int .u8 a_4, .list true [.int .i64, .int .i64, .int .i64, .int .u8, .int .u8, .int .u8] a_5])] []).bind fun r5 =>
            (C 19 [.p (.agg [.int .i64 b_0, .int .i64 b_1, .int .u8 b_2, .int .u8 b_3, .int .u8 b_4, .list true [.int .i64, .int .i64, .int .i64, .int .u8, .int .u8, .int .u8] b_5])] []).bind fun r6 =>
            (C 20 [.p (.agg [.int .i64 (((r5.1.headD .undef).aggPv.cell 0).toInt), .int .i64 (((r5.1.headD .undef).aggPv.cell 1).toInt), .int .u8 (((r5.1.headD .undef).aggPv.cell 2).toInt), .int .u8 (((r5.1.headD .undef).aggPv.cell 3).toInt), .int .u8 (((r5.1.headD .undef).aggPv.cell 4).toInt), .list true [.int .i64, .int .i64, .int .i64, .int .u8, .int .u8, .int .u8] ((((r5.1.headD .undef).aggList).drop 0).take ((r5.1.headD .undef).aggList.length))]), .p (.agg [.int .i64 (((r6.1.headD .undef).aggPv.cell 0).toInt), .int .i64 (((r6.1.headD .undef).aggPv.cell 1).toInt), .int .u8 (((r6.1.headD .undef).aggPv.cell 2).toInt), .int .u8 (((r6.1.headD .undef).aggPv.cell 3).toInt), .int .u8 (((r6.1.headD .undef).aggPv.cell 4).toInt), .list true [.int .i64, .int .i64, .int .i64, .int .u8, .int .u8, .int .u8] ((((r6.1.headD .undef).aggList).drop 0).take ((r6.1.headD .undef).aggList.length))])] []).bind fun r7 =>
            (C 21 [.p (.agg [.int .i64 a_0, .int .i64 a_1, .int .u8 a_2, .int .u8 a_3, .int .u8 a_4, .list true [.int .i64, .int .i64, .int .i64, .int .u8, .int .u8, .int .u8] a_5]), .p (.agg [.int .i64 b_0, .int .i64 b_1, .int .u8 b_2, .int .u8 b_3, .int .u8 b_4, .list true [.int .i64, .int .i64, .int .i64, .int .u8, .int .u8, .int .u8] b_5])] []).bind fun r8 =>
            (C 17 [.p (.agg [.int .i64 (((r7.1.headD .undef).aggPv.cell 0).toInt), .int .i64 (((r7.1.headD .undef).aggPv.cell 1).toInt), .int .u8 (((r7.1.headD .undef).aggPv.cell 2).toInt), .int .u8 (((r7.1.headD .undef).aggPv.cell 3).toInt), .int .u8 (((r7.1.headD .undef).aggPv.cell 4).toInt), .list true [.int .i64, .int .i64, .int .i64, .int .u8, .int .u8, .int .u8] ((((r7.1.headD .undef).aggList).drop 0).take ((r7.1.headD .undef).aggList.length))]), .p (.agg [.int .i64 (((r8.1.headD .undef).aggPv.cell 0).toInt), .int .i64 (((r8.1.headD .undef).aggPv.cell 1).toInt), .int .u8 (((r8.1.headD .undef).aggPv.cell 2).toInt), .int .u8 (((r8.1.headD .undef).aggPv.cell 3).toInt), .int .u8 (((r8.1.headD .undef).aggPv.cell 4).toInt), .list true [.int .i64, .int .i64, .int .i64, .int .u8, .int .u8, .int .u8] ((((r8.1.headD .undef).aggList).drop 0).take ((r8.1.headD .undef).aggList.length))])] []).bind fun r9 =>
            bif (!(r9.1.headD .undef).pv.toBool) then
              some ([.p (.bool false)], [])
            else
              bif ((r7.1.tail.headD .undef).pv.toInt != (r8.1.tail.headD .undef).pv.toInt) then
                some ([.p (.bool false)], [])
              else
                L tab C 6 [] [.lp [1, 1, 1, 1, 1, 1, 1, 0, 1, 0]] (S6_1111111010 0 a_0 a_1 a_2 a_3 a_4 a_5 b_0 b_1 b_2 b_3 b_4 b_5 ((r5.1.headD .undef).aggList) ((r6.1.headD .undef).aggList) (((r5.1.headD .undef).aggPv.cell 0).toInt) (((r5.1.headD .undef).aggPv.cell 1).toInt) (((r5.1.headD .undef).aggPv.cell 2).toInt) (((r5.1.headD .undef).aggPv.cell 3).toInt) (((r5.1.headD .undef).aggPv.cell 4).toInt) 0 ((r5.1.headD .undef).aggList.length) (((r6.1.headD .undef).aggPv.cell 0).toInt) (((r6.1.headD .undef).aggPv.cell 1).toInt) (((r6.1.headD .undef).aggPv.cell 2).toInt) (((r6.1.headD .undef).aggPv.cell 3).toInt) (((r6.1.headD .undef).aggPv.cell 4).toInt) 0 ((r6.1.headD .undef).aggList.length) ((r7.1.headD .undef).aggList) (((r7.1.headD .undef).aggPv.cell 0).toInt) (((r7.1.headD .undef).aggPv.cell 1).toInt) (((r7.1.headD .undef).aggPv.cell 2).toInt) (((r7.1.headD .undef).aggPv.cell 3).toInt) (((r7.1.headD .undef).aggPv.cell 4).toInt) 0 ((r7.1.headD .undef).aggList.length))
        else
          (C 19 [.p (.agg [.int .i64 a_0, .int .i64 a_1, .int .u8 a_2, .int .u8 a_3, .int .u8 a_4, .list true [.int .i64, .int .i64, .int .i64, .int .u8, .int .u8, .int .u8] a_5])] []).bind fun r10 =>
          (C 19 [.p (.agg [.int .i64 b_0, .int .i64 b_1, .int .u8 b_2, .int .u8 b_3, .int .u8 b_4, .list true [.int .i64, .int .i64, .int .i64, .int .u8, .int .u8, .int .u8] b_5])] []).bind fun r11 =>
          (C 20 [.p (.agg [.int .i64 (((r10.1.headD .undef).aggPv.cell 0).toInt), .int .i64 (((r10.1.headD .undef).aggPv.cell 1).toInt), .int .u8 (((r10.1.headD .undef).aggPv.cell 2).toInt), .int .u8 (((r10.1.headD .undef).aggPv.cell 3).toInt), .int .u8 (((r10.1.headD .undef).aggPv.cell 4).toInt), .list true [.int .i64, .int .i64, .int .i64, .int .u8, .int .u8, .int .u8] ((((r10.1.headD .undef).aggList).drop 0).take ((r10.1.headD .undef).aggList.length))]), .p (.agg [.int .i64 (((r11.1.headD .undef).aggPv.cell 0).toInt), .int .i64 (((r11.1.headD .undef).aggPv.cell 1).toInt), .int .u8 (((r11.1.headD .undef).aggPv.cell 2).toInt), .int .u8 (((r11.1.headD .undef).aggPv.cell 3).toInt), .int .u8 (((r11.1.headD .undef).aggPv.cell 4).toInt), .list true [.int .i64, .int .i64, .int .i64, .int .u8, .int .u8, .int .u8] ((((r11.1.headD .undef).aggList).drop 0).take ((r11.1.headD .undef).aggList.length))])] []).bind fun r12 =>
          (C 21 [.p (.agg [.int .i64 a_0, .int .i64 a_1, .int .u8 a_2, .int .u8 a_3, .int .u8 a_4, .list true [.int .i64, .int .i64, .int .i64, .int .u8, .int .u8, .int .u8] a_5]), .p (.agg [.int .i64 b_0, .int .i64 b_1, .int .u8 b_2, .int .u8 b_3, .int .u8 b_4, .list true [.int .i64, .int .i64, .int .i64, .int .u8, .int .u8, .int .u8] b_5])] []).bind fun r13 =>
          (C 17 [.p (.agg [.int .i64 (((r12.1.headD .undef).aggPv.cell 0).toInt), .int .i64 (((r12.1.headD .undef).aggPv.cell 1).toInt), .int .u8 (((r12.1.headD .undef).aggPv.cell 2).toInt), .int .u8 (((r12.1.headD .undef).aggPv.cell 3).toInt), .int .u8 (((r12.1.headD .undef).aggPv.cell 4).toInt), .list true [.int .i64, .int .i64, .int .i64, .int .u8, .int .u8, .int .u8] ((((r12.1.headD .undef).aggList).drop 0).take ((r12.1.headD .undef).aggList.length))]), .p (.agg [.int .i64 (((r13.1.headD .undef).aggPv.cell 0).toInt), .int .i64 (((r13.1.headD .undef).aggPv.cell 1).toInt), .int .u8 (((r13.1.headD .undef).aggPv.cell 2).toInt), .int .u8 (((r13.1.headD .undef).aggPv.cell 3).toInt), .int .u8 (((r13.1.headD .undef).aggPv.cell 4).toInt), .list true [.int .i64, .int .i64, .int .i64, .int .u8, .int .u8, .int .u8] ((((r13.1.headD .undef).aggList).drop 0).take ((r13.1.headD .undef).aggList.length))])] []).bind fun r14 =>
          bif (!(r14.1.headD .undef).pv.toBool) then
            some ([.p (.bool false)], [])
          else
            bif ((r12.1.tail.headD .undef).pv.toInt != (r13.1.tail.headD .undef).pv.toInt) then
              some ([.p (.bool false)], [])
            else
              L tab C 6 [] [.lp [1, 1, 1, 1, 1, 1, 1, 0, 1, 0]] (S6_1111111010 0 a_0 a_1 a_2 a_3 a_4 a_5 b_0 b_1 b_2 b_3 b_4 b_5 ((r10.1.headD .undef).aggList) ((r11.1.headD .undef).aggList) (((r10.1.headD .undef).aggPv.cell 0).toInt) (((r10.1.headD .undef).aggPv.cell 1).toInt) (((r10.1.headD .undef).aggPv.cell 2).toInt) (((r10.1.headD .undef).aggPv.cell 3).toInt) (((r10.1.headD .undef).aggPv.cell 4).toInt) 0 ((r10.1.headD .undef).aggList.length) (((r11.1.headD .undef).aggPv.cell 0).toInt) (((r11.1.headD .undef).aggPv.cell 1).toInt) (((r11.1.headD .undef).aggPv.cell 2).toInt) (((r11.1.headD .undef).aggPv.cell 3).toInt) (((r11.1.headD .undef).aggPv.cell 4).toInt) 0 ((r11.1.headD .undef).aggList.length) ((r12.1.headD .undef).aggList) (((r12.1.headD .undef).aggPv.cell 0).toInt) (((r12.1.headD .undef).aggPv.cell 1).toInt) (((r12.1.headD .undef).aggPv.cell 2).toInt) (((r12.1.headD .undef).aggPv.cell 3).toInt) (((r12.1.headD .undef).aggPv.cell 4).toInt) 0 ((r12.1.headD .undef).aggList.length))
      else
        (C 19 [.p (.agg [.int .i64 a_0, .int .i64 a_1, .int .u8 a_2, .int .u8 a_3, .int .u8 a_4, .list true [.int .i64, .int .i64, .int .i64, .int .u8, .int .u8, .int .u8] a_5])] []).bind fun r15 =>
        (C 19 [.p (.agg [.int .i64 b_0, .int .i64 b_1, .int .u8 b_2, .int .u8 b_3, .int .u8 b_4, .list true [.int .i64, .int .i64, .int .i64, .int .u8, .int .u8, .int .u8] b_5])] []).bind fun r16 =>
        (C 20 [.p (.agg [.int .i64 (((r15.1.headD .undef).aggPv.cell 0).toInt), .int .i64 (((r15.1.headD .undef).aggPv.cell 1).toInt), .int .u8 (((r15.1.headD .undef).aggPv.cell 2).toInt), .int .u8 (((r15.1.headD .undef).aggPv.cell 3).toInt), .int .u8 (((r15.1.headD .undef).aggPv.cell 4).toInt), .list true [.int .i64, .int .i64, .int .i64, .int .u8, .int .u8, .int .u8] ((((r15.1.headD .undef).aggList).drop 0).take ((r15.1.headD .undef).aggList.length))]), .p (.agg [.int .i64 (((r16.1.headD .undef).aggPv.cell 0).toInt), .int .i64 (((r16.1.headD .undef).aggPv.cell 1).toInt), .int .u8 (((r16.1.headD .undef).aggPv.cell 2).toInt), .int .u8 (((r16.1.headD .undef).aggPv.cell 3).toInt), .int .u8 (((r16.1.headD .undef).aggPv.cell 4).toInt), .list true [.int .i64, .int .i64, .int .i64, .int .u8, .int .u8, .int .u8] ((((r16.1.headD .undef).aggList).drop 0).take ((r16.1.headD .undef).aggList.length))])] []).bind fun r17 =>
        (C 21 [.p (.agg [.int .i64 a_0, .int .i64 a_1, .int .u8 a_2, .int .u8 a_3, .int .u8 a_4, .list true [.int .i64, .int .i64, .int .i64, .int .u8, .int .u8, .int .u8] a_5]), .p (.agg [.int .i64 b_0, .int .i64 b_1, .int .u8 b_2, .int .u8 b_3, .int .u8 b_4, .list true [.int .i64, .int .i64, .int .i64, .int .u8, .int .u8, .int .u8] b_5])] []).bind fun r18 =>
        (C 17 [.p (.agg [.int .i64 (((r17.1.headD .undef).aggPv.cell 0).toInt), .int .i64 (((r17.1.headD .undef).aggPv.cell 1).toInt), .int .u8 (((r17.1.headD .undef).aggPv.cell 2).toInt), .int .u8 (((r17.1.headD .undef).aggPv.cell 3).toInt), .int .u8 (((r17.1.headD .undef).aggPv.cell 4).toInt), .list true [.int .i64, .int .i64, .int .i64, .int .u8, .int .u8, .int .u8] ((((r17.1.headD .undef).aggList).drop 0).take ((r17.1.headD .undef).aggList.length))]), .p (.agg [.int .i64 (((r18.1.headD .undef).aggPv.cell 0).toInt), .int .i64 (((r18.1.headD .undef).aggPv.cell 1).toInt), .int .u8 (((r18.1.headD .undef).aggPv.cell 2).toInt), .int .u8 (((r18.1.headD .undef).aggPv.cell 3).toInt), .int .u8 (((r18.1.headD .undef).aggPv.cell 4).toInt), .list true [.int .i64, .int .i64, .int .i64, .int .u8, .int .u8, .int .u8] ((((r18.1.headD .undef).aggList).drop 0).take ((r18.1.headD .undef).aggList.length))])] []).bind fun r19 =>
        bif (!(r19.1.headD .undef).pv.toBool) then
          some ([.p (.bool false)], [])
        else
          bif ((r17.1.tail.headD .undef).pv.toInt != (r18.1.tail.headD .undef).pv.toInt) then
            some ([.p (.bool false)], [])
          else
            L tab C 6 [] [.lp [1, 1, 1, 1, 1, 1, 1, 0, 1, 0]] (S6_1111111010 0 a_0 a_1 a_2 a_3 a_4 a_5 b_0 b_1 b_2 b_3 b_4 b_5 ((r15.1.headD .undef).aggList) ((r16.1.headD .undef).aggList) (((r15.1.headD .undef).aggPv.cell 0).toInt) (((r15.1.headD .undef).aggPv.cell 1).toInt) (((r15.1.headD .undef).aggPv.cell 2).toInt) (((r15.1.headD .undef).aggPv.cell 3).toInt) (((r15.1.headD .undef).aggPv.cell 4).toInt) 0 ((r15.1.headD .undef).aggList.length) (((r16.1.headD .undef).aggPv.cell 0).toInt) (((r16.1.headD .undef).aggPv.cell 1).toInt) (((r16.1.headD .undef).aggPv.cell 2).toInt) (((r16.1.headD .undef).aggPv.cell 3).toInt) (((r16.1.headD .undef).aggPv.cell 4).toInt) 0 ((r16.1.headD .undef).aggList.length) ((r17.1.headD .undef).aggList) (((r17.1.headD .undef).aggPv.cell 0).toInt) (((r17.1.headD .undef).aggPv.cell 1).toInt) (((r17.1.headD .undef).aggPv.cell 2).toInt) (((r17.1.headD .undef).aggPv.cell 3).toInt) (((r17.1.headD .undef).aggPv.cell 4).toInt) 0 ((r17.1.headD .undef).aggList.length)) := by kernel_rfl
theorem e6_11010100 (C : CallF) (many' : Int) (l_o : Nat) (l_l : Nat) (a_b0 : Int) (a_b1 : Int) (a_b2 : Int) (a_b3 : Int) (a_b4 : Int) (a_b5 : List PV) (b_b0 : Int) (b_b1 : Int) (b_b2 : Int) (b_b3 : Int) (b_b4 : Int) (b_b5 : List PV) (l_b : List PV) : R tab C 6 [] [.lp [1, 1, 0, 1, 0, 1, 0, 0]] (S6_11010100 many' l_o l_l a_b0 a_b1 a_b2 a_b3 a_b4 a_b5 b_b0 b_b1 b_b2 b_b3 b_b4 b_b5 l_b) =
  bif (ltI (l_l : Int) many') then
    bif (ltI (0 : Int) ((a_b5.length : Nat) : Int)) then bif (leN (l_l + 1) 2147483648) then L tab C 6 [] [.lp [1, 1, 0, 1, 0, 1, 0, 0]] (S6_11010100 many' 0 (l_l + 1) a_b0 a_b1 a_b2 a_b3 a_b4 a_b5 b_b0 b_b1 b_b2 b_b3 b_b4 b_b5 (((l_b.drop l_o).take l_l) ++ ([.agg [.int .i64 (((a_b5.getD 0 .nil).cell 0).toInt), .int .i64 (((a_b5.getD 0 .nil).cell 1).toInt), .int .i64 (((a_b5.getD 0 .nil).cell 2).toInt), .int .u8 (((a_b5.getD 0 .nil).cell 3).toInt), .int .u8 (((a_b5.getD 0 .nil).cell 4).toInt), .int .u8 (((a_b5.getD 0 .nil).cell 5).toInt)]] : List PV))) else none else none
  else
    (C 19 [.p (.agg [.int .i64 a_b0, .int .i64 a_b1, .int .u8 a_b2, .int .u8 a_b3, .int .u8 a_b4, .list true [.int .i64, .int .i64, .int .i64, .int .u8, .int .u8, .int .u8] ((l_b.drop l_o).take l_l)])] []).bind fun r1 =>
    (C 19 [.p (.agg [.int .i64 b_b0, .int .i64 b_b1, .int .u8 b_b2, .int .u8 b_b3, .int .u8 b_b4, .list true [.int .i64, .int .i64, .int .i64, .int .u8, .int .u8, .int .u8] b_b5])] []).bind fun r2 =>
    (C 20 [.p (.agg [.int .i64 (((r1.1.headD .undef).aggPv.cell 0).toInt), .int .i64 (((r1.1.headD .undef).aggPv.cell 1).toInt), .int .u8 (((r1.1.headD .undef).aggPv.cell 2).toInt), .int .u8 (((r1.1.headD .undef).aggPv.cell 3).toInt), .int .u8 (((r1.1.headD .undef).aggPv.cell 4).toInt), .list true [.int .i64, .int .i64, .int .i64, .int .u8, .int .u8, .int .u8] ((((r1.1.headD .undef).aggList).drop 0).take ((r1.1.headD .undef).aggList.length))]), .p (.agg [.int .i64 (((r2.1.headD .undef).aggPv.cell 0).toInt), .int .i64 (((r2.1.headD .undef).aggPv.cell 1).toInt), .int .u8 (((r2.1.headD .undef).aggPv.cell 2).toInt), .int .u8 (((r2.1.headD .undef).aggPv.cell 3).toInt), .int .u8 (((r2.1.headD .undef).aggPv.cell 4).toInt), .list true [.int .i64, .int .i64, .int .i64, .int .u8, .int .u8, .int .u8] ((((r2.1.headD .undef).aggList).drop 0).take ((r2.1.headD .undef).aggList.length))])] []).bind fun r3 =>
    (C 21 [.p (.agg [.int .i64 a_b0, .int .i64 a_b1, .int .u8 a_b2, .int .u8 a_b3, .int .u8 a_b4, .list true [.int .i64, .int .i64, .int .i64, .int .u8, .int .u8, .int .u8] ((l_b.drop l_o).take l_l)]), .p (.agg [.int .i64 b_b0, .int .i64 b_b1, .int .u8 b_b2, .int .u8 b_b3, .int .u8 b_b4, .list true [.int .i64, .int .i64, .int .i64, .int .u8, .int .u8, .int .u8] b_b5])] []).bind fun r4 =>
    (C 17 [.p (.agg [.int .i64 (((r3.1.headD .undef).aggPv.cell 0).toInt), .int .i64 (((r3.1.headD .undef).aggPv.cell 1).toInt), .int .u8 (((r3.1.headD .undef).aggPv.cell 2).toInt), .int .u8 (((r3.1.headD .undef).aggPv.cell 3).toInt), .int .u8 (((r3.1.headD .undef).aggPv.cell 4).toInt), .list true [.int .i64, .int .i64, .int .i64, .int .u8, .int .u8, .int .u8] ((((r3.1.headD .undef).aggList).drop 0).take ((r3.1.headD .undef).aggList.length))]), .p (.agg [.int .i64 (((r4.1.headD .undef).aggPv.cell 0).toInt), .int .i64 (((r4.1.headD .undef).aggPv.cell 1).toInt), .int .u8 (((r4.1.headD .undef).aggPv.cell 2).toInt), .int .u8 (((r4.1.headD .undef).aggPv.cell 3).toInt), .int .u8 (((r4.1.headD .undef).aggPv.cell 4).toInt), .list true [.int .i64, .int .i64, .int .i64, .int .u8, .int .u8, .int .u8] ((((r4.1.headD .undef).aggList).drop 0).take ((r4.1.headD .undef).aggList.length))])] []).bind fun r5 =>
    bif (!(r5.1.headD .undef).pv.toBool) then
      some ([.p (.bool false)], [])
    else
      bif ((r3.1.tail.headD .undef).pv.toInt != (r4.1.tail.headD .undef).pv.toInt) then
        some ([.p (.bool false)], [])
      else
        L tab C 6 [] [.lp [1, 1, 1, 1, 1, 1, 1, 0, 1, 0]] (S6_1111111010_s1 0 a_b0 a_b1 a_b2 a_b3 a_b4 l_o l_l b_b0 b_b1 b_b2 b_b3 b_b4 b_b5 l_b ((r1.1.headD .undef).aggList) ((r2.1.headD .undef).aggList) (((r1.1.headD .undef).aggPv.cell 0).toInt) (((r1.1.headD .undef).aggPv.cell 1).toInt) (((r1.1.headD .undef).aggPv.cell 2).toInt) (((r1.1.headD .undef).aggPv.cell 3).toInt) (((r1.1.headD .undef).aggPv.cell 4).toInt) 0 ((r1.1.headD .undef).aggList.length) (((r2.1.headD .undef).aggPv.cell 0).toInt) (((r2.1.headD .undef).aggPv.cell 1).toInt) (((r2.1.headD .undef).aggPv.cell 2).toInt) (((r2.1.headD .undef).aggPv.cell 3).toInt) (((r2.1.headD .undef).aggPv.cell 4).toInt) 0 ((r2.1.headD .undef).aggList.length) ((r3.1.headD .undef).aggList) (((r3.1.headD .undef).aggPv.cell 0).toInt) (((r3.1.headD .undef).aggPv.cell 1).toInt) (((r3.1.headD .undef).aggPv.cell 2).toInt) (((r3.1.headD .undef).aggPv.cell 3).toInt) (((r3.1.headD .undef).aggPv.cell 4).toInt) 0 ((r3.1.headD .undef).aggList.length)) := by kernel_rfl
theorem e6_1111111010 (C : CallF) (i' : Int) (a_b0 : Int) (a_b1 : Int) (a_b2 : Int) (a_b3 : Int) (a_b4 : Int) (a_b5 : List PV) (b_b0 : Int) (b_b1 : Int) (b_b2 : Int) (b_b3 : Int) (b_b4 : Int) (b_b5 : List PV) (b53_b : List PV) (b55_b : List PV) (x_b0 : Int) (x_b1 : Int) (x_b2 : Int) (x_b3 : Int) (x_b4 : Int) (x_b5_o : Nat) (x_b5_l : Nat) (y_b0 : Int) (y_b1 : Int) (y_b2 : Int) (y_b3 : Int) (y_b4 : Int) (y_b5_o : Nat) (y_b5_l : Nat) (b59_b : List PV) (p_b0 : Int) (p_b1 : Int) (p_b2 : Int) (p_b3 : Int) (p_b4 : Int) (p_b5_o : Nat) (p_b5_l : Nat) : R tab C 6 [] [.lp [1, 1, 1, 1, 1, 1, 1, 0, 1, 0]] (S6_1111111010 i' a_b0 a_b1 a_b2 a_b3 a_b4 a_b5 b_b0 b_b1 b_b2 b_b3 b_b4 b_b5 b53_b b55_b x_b0 x_b1 x_b2 x_b3 x_b4 x_b5_o x_b5_l y_b0 y_b1 y_b2 y_b3 y_b4 y_b5_o y_b5_l b59_b p_b0 p_b1 p_b2 p_b3 p_b4 p_b5_o p_b5_l) =
  bif (ltI i' (p_b5_l : Int)) then
    bif ((leI (0 : Int) i') && (ltI i' (p_b5_l : Int))) then bif ((leI (0 : Int) i') && (ltI i' (p_b5_l : Int))) then L tab C 6 [] [.lp [1, 1, 1, 1, 1, 1, 1, 0, 1, 0]] (S6_1111111010 (IntKind.i64.wrap (i' + (1 : Int))) a_b0 a_b1 a_b2 a_b3 a_b4 a_b5 b_b0 b_b1 b_b2 b_b3 b_b4 b_b5 b53_b b55_b x_b0 x_b1 x_b2 x_b3 x_b4 x_b5_o x_b5_l y_b0 y_b1 y_b2 y_b3 y_b4 y_b5_o y_b5_l (b59_b.set (p_b5_o + i'.toNat) (PV.agg [.int .i64 (IntKind.i64.wrap (((b59_b.getD (p_b5_o + i'.toNat) .nil).cell 0).toInt - (1 : Int))), .int .i64 (((b59_b.getD (p_b5_o + i'.toNat) .nil).cell 1).toInt), .int .i64 (((b59_b.getD (p_b5_o + i'.toNat) .nil).cell 2).toInt), .int .u8 (((b59_b.getD (p_b5_o + i'.toNat) .nil).cell 3).toInt), .int .u8 (((b59_b.getD (p_b5_o + i'.toNat) .nil).cell 4).toInt), .int .u8 (((b59_b.getD (p_b5_o + i'.toNat) .nil).cell 5).toInt)])) p_b0 p_b1 p_b2 p_b3 p_b4 p_b5_o p_b5_l) else none else none
  else
    (C 17 [.p (.agg [.int .i64 x_b0, .int .i64 x_b1, .int .u8 x_b2, .int .u8 x_b3, .int .u8 x_b4, .list true [.int .i64, .int .i64, .int .i64, .int .u8, .int .u8, .int .u8] ((b53_b.drop x_b5_o).take x_b5_l)]), .p (.agg [.int .i64 a_b0, .int .i64 a_b1, .int .u8 a_b2, .int .u8 a_b3, .int .u8 a_b4, .list true [.int .i64, .int .i64, .int .i64, .int .u8, .int .u8, .int .u8] a_b5])] []).bind fun r1 =>
    bif (r1.1.headD .undef).pv.toBool then
      (C 17 [.p (.agg [.int .i64 y_b0, .int .i64 y_b1, .int .u8 y_b2, .int .u8 y_b3, .int .u8 y_b4, .list true [.int .i64, .int .i64, .int .i64, .int .u8, .int .u8, .int .u8] ((b55_b.drop y_b5_o).take y_b5_l)]), .p (.agg [.int .i64 b_b0, .int .i64 b_b1, .int .u8 b_b2, .int .u8 b_b3, .int .u8 b_b4, .list true [.int .i64, .int .i64, .int .i64, .int .u8, .int .u8, .int .u8] b_b5])] []).bind fun r2 =>
      bif (r2.1.headD .undef).pv.toBool then
        (C 10 [] []).bind fun r3 =>
        some ([.p (.bool ((r3.1.headD .undef).pv.toBool))], [])
      else
        some ([.p (.bool false)], [])
    else
      some ([.p (.bool false)], []) := by kernel_rfl
theorem e6_1111111010_s1 (C : CallF) (i' : Int) (a_b0 : Int) (a_b1 : Int) (a_b2 : Int) (a_b3 : Int) (a_b4 : Int) (a_b5_o : Nat) (a_b5_l : Nat) (b_b0 : Int) (b_b1 : Int) (b_b2 : Int) (b_b3 : Int) (b_b4 : Int) (b_b5 : List PV) (l_b : List PV) (b53_b : List PV) (b55_b : List PV) (x_b0 : Int) (x_b1 : Int) (x_b2 : Int) (x_b3 : Int) (x_b4 : Int) (x_b5_o : Nat) (x_b5_l : Nat) (y_b0 : Int) (y_b1 : Int) (y_b2 : Int) (y_b3 : Int) (y_b4 : Int) (y_b5_o : Nat) (y_b5_l : Nat) (b59_b : List PV) (p_b0 : Int) (p_b1 : Int) (p_b2 : Int) (p_b3 : Int) (p_b4 : Int) (p_b5_o : Nat) (p_b5_l : Nat) : R tab C 6 [] [.lp [1, 1, 1, 1, 1, 1, 1, 0, 1, 0]] (S6_1111111010_s1 i' a_b0 a_b1 a_b2 a_b3 a_b4 a_b5_o a_b5_l b_b0 b_b1 b_b2 b_b3 b_b4 b_b5 l_b b53_b b55_b x_b0 x_b1 x_b2 x_b3 x_b4 x_b5_o x_b5_l y_b0 y_b1 y_b2 y_b3 y_b4 y_b5_o y_b5_l b59_b p_b0 p_b1 p_b2 p_b3 p_b4 p_b5_o p_b5_l) =
  bif (ltI i' (p_b5_l : Int)) then
    bif ((leI (0 : Int) i') && (ltI i' (p_b5_l : Int))) then bif ((leI (0 : Int) i') && (ltI i' (p_b5_l : Int))) then L tab C 6 [] [.lp [1, 1, 1, 1, 1, 1, 1, 0, 1, 0]] (S6_1111111010_s1 (IntKind.i64.wrap (i' + (1 : Int))) a_b0 a_b1 a_b2 a_b3 a_b4 a_b5_o a_b5_l b_b0 b_b1 b_b2 b_b3 b_b4 b_b5 l_b b53_b b55_b x_b0 x_b1 x_b2 x_b3 x_b4 x_b5_o x_b5_l y_b0 y_b1 y_b2 y_b3 y_b4 y_b5_o y_b5_l (b59_b.set (p_b5_o + i'.toNat) (PV.agg [.int .i64 (IntKind.i64.wrap (((b59_b.getD (p_b5_o + i'.toNat) .nil).cell 0).toInt - (1 : Int))), .int .i64 (((b59_b.getD (p_b5_o + i'.toNat) .nil).cell 1).toInt), .int .i64 (((b59_b.getD (p_b5_o + i'.toNat) .nil).cell 2).toInt), .int .u8 (((b59_b.getD (p_b5_o + i'.toNat) .nil).cell 3).toInt), .int .u8 (((b59_b.getD (p_b5_o + i'.toNat) .nil).cell 4).toInt), .int .u8 (((b59_b.getD (p_b5_o + i'.toNat) .nil).cell 5).toInt)])) p_b0 p_b1 p_b2 p_b3 p_b4 p_b5_o p_b5_l) else none else none
  else
    (C 17 [.p (.agg [.int .i64 x_b0, .int .i64 x_b1, .int .u8 x_b2, .int .u8 x_b3, .int .u8 x_b4, .list true [.int .i64, .int .i64, .int .i64, .int .u8, .int .u8, .int .u8] ((b53_b.drop x_b5_o).take x_b5_l)]), .p (.agg [.int .i64 a_b0, .int .i64 a_b1, .int .u8 a_b2, .int .u8 a_b3, .int .u8 a_b4, .list true [.int .i64, .int .i64, .int .i64, .int .u8, .int .u8, .int .u8] ((l_b.drop a_b5_o).take a_b5_l)])] []).bind fun r1 =>
    bif (r1.1.headD .undef).pv.toBool then
      (C 17 [.p (.agg [.int .i64 y_b0, .int .i64 y_b1, .int .u8 y_b2, .int .u8 y_b3, .int .u8 y_b4, .list true [.int .i64, .int .i64, .int .i64, .int .u8, .int .u8, .int .u8] ((b55_b.drop y_b5_o).take y_b5_l)]), .p (.agg [.int .i64 b_b0, .int .i64 b_b1, .int .u8 b_b2, .int .u8 b_b3, .int .u8 b_b4, .list true [.int .i64, .int .i64, .int .i64, .int .u8, .int .u8, .int .u8] b_b5])] []).bind fun r2 =>
      bif (r2.1.headD .undef).pv.toBool then
        (C 10 [] []).bind fun r3 =>
        some ([.p (.bool ((r3.1.headD .undef).pv.toBool))], [])
      else
        some ([.p (.bool false)], [])
    else
      some ([.p (.bool false)], []) := by kernel_rfl
theorem e10 (C : CallF)  : acallI tab C 10 [] [] =
  (C 30 [] []).bind fun r1 =>
  (C 14 [.p (.agg [.int .i64 (((r1.1.headD .undef).pv.cell 0).toInt), .int .i64 (((r1.1.headD .undef).pv.cell 1).toInt), .int .u8 (((r1.1.headD .undef).pv.cell 2).toInt), .int .u8 (((r1.1.headD .undef).pv.cell 3).toInt), .int .u8 (((r1.1.headD .undef).pv.cell 4).toInt), .list true [.int .i64, .int .i64, .int .i64, .int .u8, .int .u8, .int .u8] (((r1.1.headD .undef).pv.cell 5).toList)])] []).bind fun r2 =>
  (C 24 [.p (.agg [.int .i64 (((r1.1.headD .undef).pv.cell 0).toInt), .int .i64 (((r1.1.headD .undef).pv.cell 1).toInt), .int .u8 (((r1.1.headD .undef).pv.cell 2).toInt), .int .u8 (((r1.1.headD .undef).pv.cell 3).toInt), .int .u8 (((r1.1.headD .undef).pv.cell 4).toInt), .list true [.int .i64, .int .i64, .int .i64, .int .u8, .int .u8, .int .u8] (((r1.1.headD .undef).pv.cell 5).toList)]), .p (.int .i64 20), .p (.int .i64 0)] []).bind fun r3 =>
  bif ((r2.1.tail.headD .undef).pv.toInt != (0 : Int)) then
    some ([.p (.bool false)], [])
  else
    bif ((r3.1.tail.headD .undef).pv.toInt != (3 : Int)) then
      some ([.p (.bool false)], [])
    else
      bif (!(((r2.1.headD .undef).pv.toStr).toList == (⟨#[112, 105, 99, 116, 117, 114, 101, 32, 50, 48, 32, 49, 48, 32, 35, 48, 48, 48, 48, 48, 48, 10, 100, 111, 116, 32, 53, 32, 53, 32, 50, 32, 35, 102, 102, 48, 48, 48, 48, 10, 100, 111, 116, 32, 55, 32, 53, 32, 49, 32, 35, 48, 48, 48, 48, 102, 102, 10]⟩ : ByteArray).toList)) then
        some ([.p (.bool false)], [])
      else
        (C 31 [.p (.agg [.int .i64 (((r1.1.headD .undef).pv.cell 0).toInt), .int .i64 (((r1.1.headD .undef).pv.cell 1).toInt), .int .u8 (((r1.1.headD .undef).pv.cell 2).toInt), .int .u8 (((r1.1.headD .undef).pv.cell 3).toInt), .int .u8 (((r1.1.headD .undef).pv.cell 4).toInt), .list true [.int .i64, .int .i64, .int .i64, .int .u8, .int .u8, .int .u8] (((r1.1.headD .undef).pv.cell 5).toList)]), .p (.int .i64 5), .p (.int .i64 7), .p (.agg [.int .u8 255, .int .u8 0, .int .u8 0])] []).bind fun r4 =>
        bif (!(r4.1.headD .undef).pv.toBool) then
          some ([.p (.bool false)], [])
        else
          (C 31 [.p (.agg [.int .i64 (((r1.1.headD .undef).pv.cell 0).toInt), .int .i64 (((r1.1.headD .undef).pv.cell 1).toInt), .int .u8 (((r1.1.headD .undef).pv.cell 2).toInt), .int .u8 (((r1.1.headD .undef).pv.cell 3).toInt), .int .u8 (((r1.1.headD .undef).pv.cell 4).toInt), .list true [.int .i64, .int .i64, .int .i64, .int .u8, .int .u8, .int .u8] (((r1.1.headD .undef).pv.cell 5).toList)]), .p (.int .i64 6), .p (.int .i64 5), .p (.agg [.int .u8 0, .int .u8 0, .int .u8 255])] []).bind fun r5 =>
          bif (!(r5.1.headD .undef).pv.toBool) then
            some ([.p (.bool false)], [])
          else
            (C 31 [.p (.agg [.int .i64 (((r1.1.headD .undef).pv.cell 0).toInt), .int .i64 (((r1.1.headD .undef).pv.cell 1).toInt), .int .u8 (((r1.1.headD .undef).pv.cell 2).toInt), .int .u8 (((r1.1.headD .undef).pv.cell 3).toInt), .int .u8 (((r1.1.headD .undef).pv.cell 4).toInt), .list true [.int .i64, .int .i64, .int .i64, .int .u8, .int .u8, .int .u8] (((r1.1.headD .undef).pv.cell 5).toList)]), .p (.int .i64 7), .p (.int .i64 5), .p (.agg [.int .u8 0, .int .u8 0, .int .u8 255])] []).bind fun r6 =>
            bif (!(r6.1.headD .undef).pv.toBool) then
              some ([.p (.bool false)], [])
            else
              (C 31 [.p (.agg [.int .i64 (((r1.1.headD .undef).pv.cell 0).toInt), .int .i64 (((r1.1.headD .undef).pv.cell 1).toInt), .int .u8 (((r1.1.headD .undef).pv.cell 2).toInt), .int .u8 (((r1.1.headD .undef).pv.cell 3).toInt), .int .u8 (((r1.1.headD .undef).pv.cell 4).toInt), .list true [.int .i64, .int .i64, .int .i64, .int .u8, .int .u8, .int .u8] (((r1.1.headD .undef).pv.cell 5).toList)]), .p (.int .i64 7), .p (.int .i64 7), .p (.agg [.int .u8 0, .int .u8 0, .int .u8 0])] []).bind fun r7 =>
              bif (!(r7.1.headD .undef).pv.toBool) then
                some ([.p (.bool false)], [])
              else
                (C 22 [.p (.agg [.int .i64 (((r1.1.headD .undef).pv.cell 0).toInt), .int .i64 (((r1.1.headD .undef).pv.cell 1).toInt), .int .u8 (((r1.1.headD .undef).pv.cell 2).toInt), .int .u8 (((r1.1.headD .undef).pv.cell 3).toInt), .int .u8 (((r1.1.headD .undef).pv.cell 4).toInt), .list true [.int .i64, .int .i64, .int .i64, .int .u8, .int .u8, .int .u8] (((r1.1.headD .undef).pv.cell 5).toList)]), .p (.int .i64 7), .p (.int .i64 5), .p (.int .i64 3), .p (.int .i64 3)] []).bind fun r8 =>
                (C 22 [.p (.agg [.int .i64 (((r1.1.headD .undef).pv.cell 0).toInt), .int .i64 (((r1.1.headD .undef).pv.cell 1).toInt), .int .u8 (((r1.1.headD .undef).pv.cell 2).toInt), .int .u8 (((r1.1.headD .undef).pv.cell 3).toInt), .int .u8 (((r1.1.headD .undef).pv.cell 4).toInt), .list true [.int .i64, .int .i64, .int .i64, .int .u8, .int .u8, .int .u8] (((r1.1.headD .undef).pv.cell 5).toList)]), .p (.int .i64 9), .p (.int .i64 0), .p (.int .i64 11), .p (.int .i64 10)] []).bind fun r9 =>
                (C 22 [.p (.agg [.int .i64 (((r1.1.headD .undef).pv.cell 0).toInt), .int .i64 (((r1.1.headD .undef).pv.cell 1).toInt), .int .u8 (((r1.1.headD .undef).pv.cell 2).toInt), .int .u8 (((r1.1.headD .undef).pv.cell 3).toInt), .int .u8 (((r1.1.headD .undef).pv.cell 4).toInt), .list true [.int .i64, .int .i64, .int .i64, .int .u8, .int .u8, .int .u8] (((r1.1.headD .undef).pv.cell 5).toList)]), .p (.int .i64 9), .p (.int .i64 0), .p (.int .i64 12), .p (.int .i64 10)] []).bind fun r10 =>
                bif ((r8.1.tail.headD .undef).pv.toInt != (0 : Int)) then
                  some ([.p (.bool false)], [])
                else
                  bif ((r9.1.tail.headD .undef).pv.toInt != (0 : Int)) then
                    some ([.p (.bool false)], [])
                  else
                    bif ((r10.1.tail.headD .undef).pv.toInt != (3 : Int)) then
                      some ([.p (.bool false)], [])
                    else
                      (C 17 [.p (.agg [.int .i64 (((r8.1.headD .undef).pv.cell 0).toInt), .int .i64 (((r8.1.headD .undef).pv.cell 1).toInt), .int .u8 (((r8.1.headD .undef).pv.cell 2).toInt), .int .u8 (((r8.1.headD .undef).pv.cell 3).toInt), .int .u8 (((r8.1.headD .undef).pv.cell 4).toInt), .list true [.int .i64, .int .i64, .int .i64, .int .u8, .int .u8, .int .u8] (((r8.1.headD .undef).pv.cell 5).toList)]), .p (.agg [.int .i64 3, .int .i64 3, .int .u8 0, .int .u8 0, .int .u8 0, .list true [.int .i64, .int .i64, .int .i64, .int .u8, .int .u8, .int .u8] [.agg [.int .i64 (-2), .int .i64 0, .int .i64 2, .int .u8 255, .int .u8 0, .int .u8 0], .agg [.int .i64 0, .int .i64 0, .int .i64 1, .int .u8 0, .int .u8 0, .int .u8 255]]])] []).bind fun r11 =>
                      bif (!(r11.1.headD .undef).pv.toBool) then
                        some ([.p (.bool false)], [])
                      else
                        (C 17 [.p (.agg [.int .i64 (((r9.1.headD .undef).pv.cell 0).toInt), .int .i64 (((r9.1.headD .undef).pv.cell 1).toInt), .int .u8 (((r9.1.headD .undef).pv.cell 2).toInt), .int .u8 (((r9.1.headD .undef).pv.cell 3).toInt), .int .u8 (((r9.1.headD .undef).pv.cell 4).toInt), .list true [.int .i64, .int .i64, .int .i64, .int .u8, .int .u8, .int .u8] (((r9.1.headD .undef).pv.cell 5).toList)]), .p (.agg [.int .i64 11, .int .i64 10, .int .u8 0, .int .u8 0, .int .u8 0, .nil])] []).bind fun r12 =>
                        bif (!(r12.1.headD .undef).pv.toBool) then
                          some ([.p (.bool false)], [])
                        else
                          (C 20 [.p (.agg [.int .i64 (((r1.1.headD .undef).pv.cell 0).toInt), .int .i64 (((r1.1.headD .undef).pv.cell 1).toInt), .int .u8 (((r1.1.headD .undef).pv.cell 2).toInt), .int .u8 (((r1.1.headD .undef).pv.cell 3).toInt), .int .u8 (((r1.1.headD .undef).pv.cell 4).toInt), .list true [.int .i64, .int .i64, .int .i64, .int .u8, .int .u8, .int .u8] (((r1.1.headD .undef).pv.cell 5).toList)]), .p (.agg [.int .i64 20, .int .i64 10, .int .u8 0, .int .u8 0, .int .u8 0, .list true [.int .i64, .int .i64, .int .i64, .int .u8, .int .u8, .int .u8] [.agg [.int .i64 5, .int .i64 5, .int .i64 1, .int .u8 0, .int .u8 255, .int .u8 0]]])] []).bind fun r13 =>
                          (C 16 [.p (.str ⟨#[112, 105, 99, 116, 117, 114, 101, 32, 50, 48, 32, 49, 48, 32, 35, 48, 48, 48, 48, 48, 48]⟩)] []).bind fun r14 =>
                          bif ((r13.1.tail.headD .undef).pv.toInt == (0 : Int)) then
                            bif ((r14.1.tail.headD .undef).pv.toInt == (6 : Int)) then
                              (C 31 [.p (.agg [.int .i64 (((r13.1.headD .undef).aggPv.cell 0).toInt), .int .i64 (((r13.1.headD .undef).aggPv.cell 1).toInt), .int .u8 (((r13.1.headD .undef).aggPv.cell 2).toInt), .int .u8 (((r13.1.headD .undef).aggPv.cell 3).toInt), .int .u8 (((r13.1.headD .undef).aggPv.cell 4).toInt), .list true [.int .i64, .int .i64, .int .i64, .int .u8, .int .u8, .int .u8] ((((r13.1.headD .undef).aggList).drop 0).take ((r13.1.headD .undef).aggList.length))]), .p (.int .i64 5), .p (.int .i64 5), .p (.agg [.int .u8 0, .int .u8 255, .int .u8 0])] []).bind fun r15 =>
                              bif (r15.1.headD .undef).pv.toBool then
                                (C 31 [.p (.agg [.int .i64 (((r13.1.headD .undef).aggPv.cell 0).toInt), .int .i64 (((r13.1.headD .undef).aggPv.cell 1).toInt), .int .u8 (((r13.1.headD .undef).aggPv.cell 2).toInt), .int .u8 (((r13.1.headD .undef).aggPv.cell 3).toInt), .int .u8 (((r13.1.headD .undef).aggPv.cell 4).toInt), .list true [.int .i64, .int .i64, .int .i64, .int .u8, .int .u8, .int .u8] ((((r13.1.headD .undef).aggList).drop 0).take ((r13.1.headD .undef).aggList.length))]), .p (.int .i64 5), .p (.int .i64 7), .p (.agg [.int .u8 255, .int .u8 0, .int .u8 0])] []).bind fun r16 =>
                                some ([.p (.bool ((r16.1.headD .undef).pv.toBool))], [])
                              else
                                some ([.p (.bool false)], [])
                            else
                              some ([.p (.bool false)], [])
                          else
                            some ([.p (.bool false)], []) := by kernel_rfl
def S11_11010 (t7' : List PV) (t8' : Int) (t9' : Int) (p_b0 : Int) (p_b1 : Int) (p_b2 : Int) (p_b3 : Int) (p_b4 : Int) (p_b5 : List PV) : St := ⟨.undef :: (.ptr 1 0 0) :: .undef :: (.p (.fn 32 [])) :: .undef :: .undef :: .undef :: (.p (.list true [.int .i64, .int .i64, .int .i64, .int .u8, .int .u8, .int .u8] t7')) :: (.p (.int .i64 t8')) :: (.p (.int .i64 t9')) :: List.replicate 21 .undef, [(1, .box [.p (.int .i64 p_b0), .p (.int .i64 p_b1), .p (.int .u8 p_b2), .p (.int .u8 p_b3), .p (.int .u8 p_b4), .p (.list true [.int .i64, .int .i64, .int .i64, .int .u8, .int .u8, .int .u8] p_b5)])]⟩
theorem e11 (C : CallF) (p_0 : Int) (p_1 : Int) (p_2 : Int) (p_3 : Int) (p_4 : Int) (p_5 : List PV) : acallI tab C 11 [.p (.agg [.int .i64 p_0, .int .i64 p_1, .int .u8 p_2, .int .u8 p_3, .int .u8 p_4, .list true [.int .i64, .int .i64, .int .i64, .int .u8, .int .u8, .int .u8] p_5])] [] =
  L tab C 11 [] [.lp [1, 1, 0, 1, 0]] (S11_11010 p_5 ((p_5.length : Nat) : Int) 0 p_0 p_1 p_2 p_3 p_4 p_5) := by kernel_rfl
theorem e11_11010 (C : CallF) (t7' : List PV) (t8' : Int) (t9' : Int) (p_b0 : Int) (p_b1 : Int) (p_b2 : Int) (p_b3 : Int) (p_b4 : Int) (p_b5 : List PV) : R tab C 11 [] [.lp [1, 1, 0, 1, 0]] (S11_11010 t7' t8' t9' p_b0 p_b1 p_b2 p_b3 p_b4 p_b5) =
  bif (ltI t9' t8') then
    bif ((leI (0 : Int) t9') && (ltI t9' ((t7'.length : Nat) : Int))) then (C 32 [.p (.agg [.int .i64 (((t7'.getD t9'.toNat .nil).cell 0).toInt), .int .i64 (((t7'.getD t9'.toNat .nil).cell 1).toInt), .int .i64 (((t7'.getD t9'.toNat .nil).cell 2).toInt), .int .u8 (((t7'.getD t9'.toNat .nil).cell 3).toInt), .int .u8 (((t7'.getD t9'.toNat .nil).cell 4).toInt), .int .u8 (((t7'.getD t9'.toNat .nil).cell 5).toInt)])] []).bind fun r1 =>
    bif (r1.1.headD .undef).pv.toBool then
      some ([.p (.bool false)], [])
    else
      L tab C 11 [] [.lp [1, 1, 0, 1, 0]] (S11_11010 t7' t8' (IntKind.i64.wrap (t9' + (1 : Int))) p_b0 p_b1 p_b2 p_b3 p_b4 p_b5) else none
  else
    (C 33 [.p (.int .i64 p_b0), .p (.int .i64 1), .p (.int .i64 4096)] []).bind fun r2 =>
    bif (r2.1.headD .undef).pv.toBool then
      (C 33 [.p (.int .i64 p_b1), .p (.int .i64 1), .p (.int .i64 4096)] []).bind fun r3 =>
      bif (r3.1.headD .undef).pv.toBool then
        some ([.p (.bool (leI ((p_b5.length : Nat) : Int) (4096 : Int)))], [])
      else
        some ([.p (.bool false)], [])
    else
      some ([.p (.bool false)], []) := by kernel_rfl
def S12_11010 (i' : Int) (p_b0 : Int) (p_b1 : Int) (p_b2 : Int) (p_b3 : Int) (p_b4 : Int) (p_b5 : List PV) : St := ⟨.undef :: (.ptr 1 0 0) :: .undef :: (.p (.int .i64 i')) :: List.replicate 45 .undef, [(1, .box [.p (.int .i64 p_b0), .p (.int .i64 p_b1), .p (.int .u8 p_b2), .p (.int .u8 p_b3), .p (.int .u8 p_b4), .p (.list true [.int .i64, .int .i64, .int .i64, .int .u8, .int .u8, .int .u8] p_b5)])]⟩
theorem e12 (C : CallF) (p_0 : Int) (p_1 : Int) (p_2 : Int) (p_3 : Int) (p_4 : Int) (p_5 : List PV) : acallI tab C 12 [.p (.agg [.int .i64 p_0, .int .i64 p_1, .int .u8 p_2, .int .u8 p_3, .int .u8 p_4, .list true [.int .i64, .int .i64, .int .i64, .int .u8, .int .u8, .int .u8] p_5])] [] =
  (C 34 [.p (.int .i64 p_0), .p (.int .i64 1), .p (.int .i64 4096)] []).bind fun r1 =>
  bif (!(r1.1.headD .undef).pv.toBool) then
    some ([.p (.bool false)], [])
  else
    (C 34 [.p (.int .i64 p_1), .p (.int .i64 1), .p (.int .i64 4096)] []).bind fun r2 =>
    bif (!(r2.1.headD .undef).pv.toBool) then
      some ([.p (.bool false)], [])
    else
      bif (gtI ((p_5.length : Nat) : Int) (4096 : Int)) then
        some ([.p (.bool false)], [])
      else
        L tab C 12 [] [.lp [1, 1, 0, 1, 0]] (S12_11010 0 p_0 p_1 p_2 p_3 p_4 p_5) := by kernel_rfl
theorem e12_11010 (C : CallF) (i' : Int) (p_b0 : Int) (p_b1 : Int) (p_b2 : Int) (p_b3 : Int) (p_b4 : Int) (p_b5 : List PV) : R tab C 12 [] [.lp [1, 1, 0, 1, 0]] (S12_11010 i' p_b0 p_b1 p_b2 p_b3 p_b4 p_b5) =
  bif (ltI i' ((p_b5.length : Nat) : Int)) then
    bif ((leI (0 : Int) i') && (ltI i' ((p_b5.length : Nat) : Int))) then (C 34 [.p (.int .i64 (((p_b5.getD i'.toNat .nil).cell 0).toInt)), .p (.int .i64 (-8192)), .p (.int .i64 8192)] []).bind fun r1 =>
    bif (!(r1.1.headD .undef).pv.toBool) then
      some ([.p (.bool false)], [])
    else
      (C 34 [.p (.int .i64 (((p_b5.getD i'.toNat .nil).cell 1).toInt)), .p (.int .i64 (-8192)), .p (.int .i64 8192)] []).bind fun r2 =>
      bif (!(r2.1.headD .undef).pv.toBool) then
        some ([.p (.bool false)], [])
      else
        (C 34 [.p (.int .i64 (((p_b5.getD i'.toNat .nil).cell 2).toInt)), .p (.int .i64 1), .p (.int .i64 4096)] []).bind fun r3 =>
        bif (!(r3.1.headD .undef).pv.toBool) then
          some ([.p (.bool false)], [])
        else
          L tab C 12 [] [.lp [1, 1, 0, 1, 0]] (S12_11010 (IntKind.i64.wrap (i' + (1 : Int))) p_b0 p_b1 p_b2 p_b3 p_b4 p_b5) else none
  else
    some ([.p (.bool true)], []) := by kernel_rfl
theorem e13 (C : CallF) (p_0 : Int) (p_1 : Int) (p_2 : Int) (p_3 : Int) (p_4 : Int) (p_5 : List PV) : acallI tab C 13 [.p (.agg [.int .i64 p_0, .int .i64 p_1, .int .u8 p_2, .int .u8 p_3, .int .u8 p_4, .list true [.int .i64, .int .i64, .int .i64, .int .u8, .int .u8, .int .u8] p_5])] [] =
  some ([.p (.bool (leI ((p_5.length : Nat) : Int) (40 : Int)))], []) := by kernel_rfl
def S14_1111010 (t20' : List PV) (t21' : Int) (t22' : Int) (b18_b : List PV) : St := ⟨.undef :: .undef :: .undef :: .undef :: (.ptr 4 0 0) :: .undef :: .undef :: .undef :: .undef :: .undef :: .undef :: .undef :: .undef :: .undef :: .undef :: .undef :: .undef :: .undef :: .undef :: .undef :: (.p (.list true [.int .i64, .int .i64, .int .i64, .int .u8, .int .u8, .int .u8] t20')) :: (.p (.int .i64 t21')) :: (.p (.int .i64 t22')) :: List.replicate 16 .undef, [(4, .tb 70 (.ptr 4 0 0) (.mref 18)), (18, .br 5 b18_b)]⟩
theorem e14 (C : CallF) (p_0 : Int) (p_1 : Int) (p_2 : Int) (p_3 : Int) (p_4 : Int) (p_5 : List PV) : acallI tab C 14 [.p (.agg [.int .i64 p_0, .int .i64 p_1, .int .u8 p_2, .int .u8 p_3, .int .u8 p_4, .list true [.int .i64, .int .i64, .int .i64, .int .u8, .int .u8, .int .u8] p_5])] [] =
  (C 11 [.p (.agg [.int .i64 p_0, .int .i64 p_1, .int .u8 p_2, .int .u8 p_3, .int .u8 p_4, .list true [.int .i64, .int .i64, .int .i64, .int .u8, .int .u8, .int .u8] p_5])] []).bind fun r1 =>
  bif (!(r1.1.headD .undef).pv.toBool) then
    some ([.p (.str ⟨#[]⟩), .p (.int .i64 2)], [])
  else
    (C 36 [.p (.str ⟨#[112, 105, 99, 116, 117, 114, 101]⟩), .p (.agg [.int .u8 p_2, .int .u8 p_3, .int .u8 p_4]), .p (.list false [.int .i64] [.int .i64 p_0, .int .i64 p_1])] []).bind fun r2 =>
    bif (leN (((r2.1.headD .undef).pv.toStr).size) 2147483648) then L tab C 14 [] [.lp [1, 1, 1, 1, 0, 1, 0]] (S14_1111010 p_5 ((p_5.length : Nat) : Int) 0 (strPVs ((r2.1.headD .undef).pv.toStr))) else none := by kernel_rfl
theorem e14_1111010 (C : CallF) (t20' : List PV) (t21' : Int) (t22' : Int) (b18_b : List PV) : R tab C 14 [] [.lp [1, 1, 1, 1, 0, 1, 0]] (S14_1111010 t20' t21' t22' b18_b) =
  bif (ltI t22' t21') then
    bif ((leI (0 : Int) t22') && (ltI t22' ((t20'.length : Nat) : Int))) then (C 36 [.p (.str ⟨#[100, 111, 116]⟩), .p (.agg [.int .u8 (((t20'.getD t22'.toNat .nil).cell 3).toInt), .int .u8 (((t20'.getD t22'.toNat .nil).cell 4).toInt), .int .u8 (((t20'.getD t22'.toNat .nil).cell 5).toInt)]), .p (.list false [.int .i64] [.int .i64 (((t20'.getD t22'.toNat .nil).cell 0).toInt), .int .i64 (((t20'.getD t22'.toNat .nil).cell 1).toInt), .int .i64 (((t20'.getD t22'.toNat .nil).cell 2).toInt)])] []).bind fun r1 =>
    bif (leN (b18_b.length + ((r1.1.headD .undef).pv.toStr).size) 2147483648) then L tab C 14 [] [.lp [1, 1, 1, 1, 0, 1, 0]] (S14_1111010 t20' t21' (IntKind.i64.wrap (t22' + (1 : Int))) (b18_b ++ (strPVs ((r1.1.headD .undef).pv.toStr)))) else none else none
  else
    bif (leN b18_b.length 2147483648) then bif (b18_b.all PV.isByte) then some ([.p (.str (bytesOf b18_b)), .p (.int .i64 0)], []) else none else none := by kernel_rfl
def S16_11111100 (rest' : ByteArray) (more' : Bool) (b2_b0 : Int) (b2_b1 : Int) (b2_b2 : Int) (b2_b3 : Int) (b2_b4 : Int) (p_b0 : Int) (p_b1 : Int) (p_b2 : Int) (p_b3 : Int) (p_b4 : Int) : St := ⟨.undef :: .undef :: (.ptr 2 0 0) :: .undef :: .undef :: .undef :: .undef :: (.p (.str rest')) :: (.p (.bool more')) :: .undef :: .undef :: .undef :: (.ptr 12 0 0) :: List.replicate 78 .undef, [(2, .box [.p (.int .i64 b2_b0), .p (.int .i64 b2_b1), .p (.int .u8 b2_b2), .p (.int .u8 b2_b3), .p (.int .u8 b2_b4), .p (.nil)]), (12, .box [.p (.int .i64 p_b0), .p (.int .i64 p_b1), .p (.int .u8 p_b2), .p (.int .u8 p_b3), .p (.int .u8 p_b4), .p (.nil)])]⟩
theorem e16 (C : CallF) (s : ByteArray) : acallI tab C 16 [.p (.str s)] [] =
  (C 40 [.p (.str s), .p (.str ⟨#[10]⟩)] []).bind fun r1 =>
  (C 41 [.p (.str ((r1.1.headD .undef).pv.toStr)), .p (.str ⟨#[10]⟩)] []).bind fun r2 =>
  (C 42 [.p (.str ((r2.1.headD .undef).pv.toStr)), .p (.str ⟨#[112, 105, 99, 116, 117, 114, 101]⟩), .p (.int .i64 2)] []).bind fun r3 =>
  bif (!(r1.1.tail.headD .undef).pv.toBool) then
    some ([.p (.agg [.int .i64 0, .int .i64 0, .int .u8 0, .int .u8 0, .int .u8 0, .nil]), .p (.int .i64 6)], [])
  else
    bif (!(r3.1.tail.tail.headD .undef).pv.toBool) then
      some ([.p (.agg [.int .i64 0, .int .i64 0, .int .u8 0, .int .u8 0, .int .u8 0, .nil]), .p (.int .i64 6)], [])
    else
      bif (ltI (0 : Int) (((r3.1.headD .undef).freshList.length : Nat) : Int)) then bif (ltI (1 : Int) (((r3.1.headD .undef).freshList.length : Nat) : Int)) then L tab C 16 [] [.lp [1, 1, 1, 1, 1, 1, 0, 0]] (S16_11111100 ((r2.1.tail.headD .undef).pv.toStr) ((r2.1.tail.tail.headD .undef).pv.toBool) 0 0 0 0 0 (((((r3.1.headD .undef).freshList).getD 0 .nil).cell 0).toInt) (((((r3.1.headD .undef).freshList).getD 1 .nil).cell 0).toInt) (((r3.1.tail.headD .undef).pv.cell 0).toInt) (((r3.1.tail.headD .undef).pv.cell 1).toInt) (((r3.1.tail.headD .undef).pv.cell 2).toInt)) else none else none := by kernel_rfl
def S17_11010 (i' : Int) (a_b0 : Int) (a_b1 : Int) (a_b2 : Int) (a_b3 : Int) (a_b4 : Int) (a_b5 : List PV) (b_b0 : Int) (b_b1 : Int) (b_b2 : Int) (b_b3 : Int) (b_b4 : Int) (b_b5 : List PV) : St := ⟨.undef :: .undef :: (.ptr 2 0 0) :: (.ptr 3 0 0) :: .undef :: (.p (.int .i64 i')) :: List.replicate 46 .undef, [(2, .box [.p (.int .i64 a_b0), .p (.int .i64 a_b1), .p (.int .u8 a_b2), .p (.int .u8 a_b3), .p (.int .u8 a_b4), .p (.list true [.int .i64, .int .i64, .int .i64, .int .u8, .int .u8, .int .u8] a_b5)]), (3, .box [.p (.int .i64 b_b0), .p (.int .i64 b_b1), .p (.int .u8 b_b2), .p (.int .u8 b_b3), .p (.int .u8 b_b4), .p (.list true [.int .i64, .int .i64, .int .i64, .int .u8, .int .u8, .int .u8] b_b5)])]⟩
theorem e17 (C : CallF) (a_0 : Int) (a_1 : Int) (a_2 : Int) (a_3 : Int) (a_4 : Int) (a_5 : List PV) (b_0 : Int) (b_1 : Int) (b_2 : Int) (b_3 : Int) (b_4 : Int) (b_5 : List PV) : acallI tab C 17 [.p (.agg [.int .i64 a_0, .int .i64 a_1, .int .u8 a_2, .int .u8 a_3, .int .u8 a_4, .list true [.int .i64, .int .i64, .int .i64, .int .u8, .int .u8, .int .u8] a_5]), .p (.agg [.int .i64 b_0, .int .i64 b_1, .int .u8 b_2, .int .u8 b_3, .int .u8 b_4, .list true [.int .i64, .int .i64, .int .i64, .int .u8, .int .u8, .int .u8] b_5])] [] =
  bif (a_0 != b_0) then
    some ([.p (.bool false)], [])
  else
    bif (a_1 != b_1) then
      some ([.p (.bool false)], [])
    else
      bif (!((a_2 == b_2) && ((a_3 == b_3) && ((a_4 == b_4) && true)))) then
        some ([.p (.bool false)], [])
      else
        bif (((a_5.length : Nat) : Int) != ((b_5.length : Nat) : Int)) then
          some ([.p (.bool false)], [])
        else
          L tab C 17 [] [.lp [1, 1, 0, 1, 0]] (S17_11010 0 a_0 a_1 a_2 a_3 a_4 a_5 b_0 b_1 b_2 b_3 b_4 b_5) := by kernel_rfl
theorem e17_11010 (C : CallF) (i' : Int) (a_b0 : Int) (a_b1 : Int) (a_b2 : Int) (a_b3 : Int) (a_b4 : Int) (a_b5 : List PV) (b_b0 : Int) (b_b1 : Int) (b_b2 : Int) (b_b3 : Int) (b_b4 : Int) (b_b5 : List PV) : R tab C 17 [] [.lp [1, 1, 0, 1, 0]] (S17_11010 i' a_b0 a_b1 a_b2 a_b3 a_b4 a_b5 b_b0 b_b1 b_b2 b_b3 b_b4 b_b5) =
  bif (ltI i' ((a_b5.length : Nat) : Int)) then
    bif ((leI (0 : Int) i') && (ltI i' ((a_b5.length : Nat) : Int))) then bif ((leI (0 : Int) i') && (ltI i' ((b_b5.length : Nat) : Int))) then bif (!((((a_b5.getD i'.toNat .nil).cell 0).toInt == ((b_b5.getD i'.toNat .nil).cell 0).toInt) && ((((a_b5.getD i'.toNat .nil).cell 1).toInt == ((b_b5.getD i'.toNat .nil).cell 1).toInt) && ((((a_b5.getD i'.toNat .nil).cell 2).toInt == ((b_b5.getD i'.toNat .nil).cell 2).toInt) && (((((a_b5.getD i'.toNat .nil).cell 3).toInt == ((b_b5.getD i'.toNat .nil).cell 3).toInt) && ((((a_b5.getD i'.toNat .nil).cell 4).toInt == ((b_b5.getD i'.toNat .nil).cell 4).toInt) && ((((a_b5.getD i'.toNat .nil).cell 5).toInt == ((b_b5.getD i'.toNat .nil).cell 5).toInt) && true))) && true))))) then
      some ([.p (.bool false)], [])
    else
      L tab C 17 [] [.lp [1, 1, 0, 1, 0]] (S17_11010 (IntKind.i64.wrap (i' + (1 : Int))) a_b0 a_b1 a_b2 a_b3 a_b4 a_b5 b_b0 b_b1 b_b2 b_b3 b_b4 b_b5) else none else none
  else
    some ([.p (.bool true)], []) := by kernel_rfl
def S17_11010n (i' : Int) (a_b0 : Int) (a_b1 : Int) (a_b2 : Int) (a_b3 : Int) (a_b4 : Int) (a_b5 : List PV) (b_b0 : Int) (b_b1 : Int) (b_b2 : Int) (b_b3 : Int) (b_b4 : Int) : St := ⟨.undef :: .undef :: (.ptr 2 0 0) :: (.ptr 3 0 0) :: .undef :: (.p (.int .i64 i')) :: List.replicate 46 .undef, [(2, .box [.p (.int .i64 a_b0), .p (.int .i64 a_b1), .p (.int .u8 a_b2), .p (.int .u8 a_b3), .p (.int .u8 a_b4), .p (.list true [.int .i64, .int .i64, .int .i64, .int .u8, .int .u8, .int .u8] a_b5)]), (3, .box [.p (.int .i64 b_b0), .p (.int .i64 b_b1), .p (.int .u8 b_b2), .p (.int .u8 b_b3), .p (.int .u8 b_b4), .p (.nil)])]⟩
theorem e17n (C : CallF) (a_0 : Int) (a_1 : Int) (a_2 : Int) (a_3 : Int) (a_4 : Int) (a_5 : List PV) (b_0 : Int) (b_1 : Int) (b_2 : Int) (b_3 : Int) (b_4 : Int) : acallI tab C 17 [.p (.agg [.int .i64 a_0, .int .i64 a_1, .int .u8 a_2, .int .u8 a_3, .int .u8 a_4, .list true [.int .i64, .int .i64, .int .i64, .int .u8, .int .u8, .int .u8] a_5]), .p (.agg [.int .i64 b_0, .int .i64 b_1, .int .u8 b_2, .int .u8 b_3, .int .u8 b_4, .nil])] [] =
  bif (a_0 != b_0) then
    some ([.p (.bool false)], [])
  else
    bif (a_1 != b_1) then
      some ([.p (.bool false)], [])
    else
      bif (!((a_2 == b_2) && ((a_3 == b_3) && ((a_4 == b_4) && true)))) then
        some ([.p (.bool false)], [])
      else
        bif (((a_5.length : Nat) : Int) != (0 : Int)) then
          some ([.p (.bool false)], [])
        else
          L tab C 17 [] [.lp [1, 1, 0, 1, 0]] (S17_11010n 0 a_0 a_1 a_2 a_3 a_4 a_5 b_0 b_1 b_2 b_3 b_4) := by kernel_rfl
theorem e17_11010n (C : CallF) (i' : Int) (a_b0 : Int) (a_b1 : Int) (a_b2 : Int) (a_b3 : Int) (a_b4 : Int) (a_b5 : List PV) (b_b0 : Int) (b_b1 : Int) (b_b2 : Int) (b_b3 : Int) (b_b4 : Int) : R tab C 17 [] [.lp [1, 1, 0, 1, 0]] (S17_11010n i' a_b0 a_b1 a_b2 a_b3 a_b4 a_b5 b_b0 b_b1 b_b2 b_b3 b_b4) =
  bif (ltI i' ((a_b5.length : Nat) : Int)) then
    bif ((leI (0 : Int) i') && (ltI i' ((a_b5.length : Nat) : Int))) then none else none
  else
    some ([.p (.bool true)], []) := by kernel_rfl
theorem e19 (C : CallF) (p_0 : Int) (p_1 : Int) (p_2 : Int) (p_3 : Int) (p_4 : Int) (p_5 : List PV) : acallI tab C 19 [.p (.agg [.int .i64 p_0, .int .i64 p_1, .int .u8 p_2, .int .u8 p_3, .int .u8 p_4, .list true [.int .i64, .int .i64, .int .i64, .int .u8, .int .u8, .int .u8] p_5])] [] =
  bif (leN p_5.length 2147483648) then some ([.agg [.p (.int .i64 p_0), .p (.int .i64 p_1), .p (.int .u8 p_2), .p (.int .u8 p_3), .p (.int .u8 p_4), .fresh true [.int .i64, .int .i64, .int .i64, .int .u8, .int .u8, .int .u8] ((p_5.drop 0).take p_5.length)]], []) else none := by kernel_rfl
theorem e20 (C : CallF) (a_0 : Int) (a_1 : Int) (a_2 : Int) (a_3 : Int) (a_4 : Int) (a_5 : List PV) (b_0 : Int) (b_1 : Int) (b_2 : Int) (b_3 : Int) (b_4 : Int) (b_5 : List PV) : acallI tab C 20 [.p (.agg [.int .i64 a_0, .int .i64 a_1, .int .u8 a_2, .int .u8 a_3, .int .u8 a_4, .list true [.int .i64, .int .i64, .int .i64, .int .u8, .int .u8, .int .u8] a_5]), .p (.agg [.int .i64 b_0, .int .i64 b_1, .int .u8 b_2, .int .u8 b_3, .int .u8 b_4, .list true [.int .i64, .int .i64, .int .i64, .int .u8, .int .u8, .int .u8] b_5])] [] =
  (C 11 [.p (.agg [.int .i64 a_0, .int .i64 a_1, .int .u8 a_2, .int .u8 a_3, .int .u8 a_4, .list true [.int .i64, .int .i64, .int .i64, .int .u8, .int .u8, .int .u8] a_5])] []).bind fun r1 =>
  bif (!(r1.1.headD .undef).pv.toBool) then
    some ([.agg [.p (.int .i64 0), .p (.int .i64 0), .p (.int .u8 0), .p (.int .u8 0), .p (.int .u8 0), .fresh true [.int .i64, .int .i64, .int .i64, .int .u8, .int .u8, .int .u8] []], .p (.int .i64 2)], [])
  else
    (C 11 [.p (.agg [.int .i64 b_0, .int .i64 b_1, .int .u8 b_2, .int .u8 b_3, .int .u8 b_4, .list true [.int .i64, .int .i64, .int .i64, .int .u8, .int .u8, .int .u8] b_5])] []).bind fun r2 =>
    bif (!(r2.1.headD .undef).pv.toBool) then
      some ([.agg [.p (.int .i64 0), .p (.int .i64 0), .p (.int .u8 0), .p (.int .u8 0), .p (.int .u8 0), .fresh true [.int .i64, .int .i64, .int .i64, .int .u8, .int .u8, .int .u8] []], .p (.int .i64 2)], [])
    else
      bif (a_0 != b_0) then
        some ([.agg [.p (.int .i64 0), .p (.int .i64 0), .p (.int .u8 0), .p (.int .u8 0), .p (.int .u8 0), .fresh true [.int .i64, .int .i64, .int .i64, .int .u8, .int .u8, .int .u8] []], .p (.int .i64 10)], [])
      else
        bif (a_1 != b_1) then
          some ([.agg [.p (.int .i64 0), .p (.int .i64 0), .p (.int .u8 0), .p (.int .u8 0), .p (.int .u8 0), .fresh true [.int .i64, .int .i64, .int .i64, .int .u8, .int .u8, .int .u8] []], .p (.int .i64 10)], [])
        else
          bif (gtI (IntKind.i64.wrap (((a_5.length : Nat) : Int) + ((b_5.length : Nat) : Int))) (4096 : Int)) then
            some ([.agg [.p (.int .i64 0), .p (.int .i64 0), .p (.int .u8 0), .p (.int .u8 0), .p (.int .u8 0), .fresh true [.int .i64, .int .i64, .int .i64, .int .u8, .int .u8, .int .u8] []], .p (.int .i64 7)], [])
          else
            (C 46 [.p (.list false [.slice true [.int .i64, .int .i64, .int .i64, .int .u8, .int .u8, .int .u8]] [.list true [.int .i64, .int .i64, .int .i64, .int .u8, .int .u8, .int .u8] a_5, .list true [.int .i64, .int .i64, .int .i64, .int .u8, .int .u8, .int .u8] b_5])] []).bind fun r3 =>
            some ([.agg [.p (.int .i64 a_0), .p (.int .i64 a_1), .p (.int .u8 a_2), .p (.int .u8 a_3), .p (.int .u8 a_4), .fresh true [.int .i64, .int .i64, .int .i64, .int .u8, .int .u8, .int .u8] ((((r3.1.headD .undef).freshList).drop 0).take ((r3.1.headD .undef).freshList.length))], .p (.int .i64 0)], []) := by kernel_rfl
theorem e21 (C : CallF) (a_0 : Int) (a_1 : Int) (a_2 : Int) (a_3 : Int) (a_4 : Int) (a_5 : List PV) (b_0 : Int) (b_1 : Int) (b_2 : Int) (b_3 : Int) (b_4 : Int) (b_5 : List PV) : acallI tab C 21 [.p (.agg [.int .i64 a_0, .int .i64 a_1, .int .u8 a_2, .int .u8 a_3, .int .u8 a_4, .list true [.int .i64, .int .i64, .int .i64, .int .u8, .int .u8, .int .u8] a_5]), .p (.agg [.int .i64 b_0, .int .i64 b_1, .int .u8 b_2, .int .u8 b_3, .int .u8 b_4, .list true [.int .i64, .int .i64, .int .i64, .int .u8, .int .u8, .int .u8] b_5])] [] =
  (C 12 [.p (.agg [.int .i64 a_0, .int .i64 a_1, .int .u8 a_2, .int .u8 a_3, .int .u8 a_4, .list true [.int .i64, .int .i64, .int .i64, .int .u8, .int .u8, .int .u8] a_5])] []).bind fun r1 =>
  bif (!(r1.1.headD .undef).pv.toBool) then
    some ([.agg [.p (.int .i64 0), .p (.int .i64 0), .p (.int .u8 0), .p (.int .u8 0), .p (.int .u8 0), .fresh true [.int .i64, .int .i64, .int .i64, .int .u8, .int .u8, .int .u8] []], .p (.int .i64 2)], [])
  else
    (C 12 [.p (.agg [.int .i64 b_0, .int .i64 b_1, .int .u8 b_2, .int .u8 b_3, .int .u8 b_4, .list true [.int .i64, .int .i64, .int .i64, .int .u8, .int .u8, .int .u8] b_5])] []).bind fun r2 =>
    bif (!(r2.1.headD .undef).pv.toBool) then
      some ([.agg [.p (.int .i64 0), .p (.int .i64 0), .p (.int .u8 0), .p (.int .u8 0), .p (.int .u8 0), .fresh true [.int .i64, .int .i64, .int .i64, .int .u8, .int .u8, .int .u8] []], .p (.int .i64 2)], [])
    else
      bif (a_0 != b_0) then
        some ([.agg [.p (.int .i64 0), .p (.int .i64 0), .p (.int .u8 0), .p (.int .u8 0), .p (.int .u8 0), .fresh true [.int .i64, .int .i64, .int .i64, .int .u8, .int .u8, .int .u8] []], .p (.int .i64 10)], [])
      else
        bif (a_1 != b_1) then
          some ([.agg [.p (.int .i64 0), .p (.int .i64 0), .p (.int .u8 0), .p (.int .u8 0), .p (.int .u8 0), .fresh true [.int .i64, .int .i64, .int .i64, .int .u8, .int .u8, .int .u8] []], .p (.int .i64 10)], [])
        else
          bif (gtI (IntKind.i64.wrap (((a_5.length : Nat) : Int) + ((b_5.length : Nat) : Int))) (4096 : Int)) then
            some ([.agg [.p (.int .i64 0), .p (.int .i64 0), .p (.int .u8 0), .p (.int .u8 0), .p (.int .u8 0), .fresh true [.int .i64, .int .i64, .int .i64, .int .u8, .int .u8, .int .u8] []], .p (.int .i64 7)], [])
          else
            bif (leN a_5.length 2147483648) then bif (leN (a_5.length + b_5.length) 2147483648) then some ([.agg [.p (.int .i64 a_0), .p (.int .i64 a_1), .p (.int .u8 a_2), .p (.int .u8 a_3), .p (.int .u8 a_4), .fresh true [.int .i64, .int .i64, .int .i64, .int .u8, .int .u8, .int .u8] (((((a_5.drop 0).take a_5.length) ++ b_5).drop 0).take (a_5.length + b_5.length))], .p (.int .i64 0)], []) else none else none := by kernel_rfl
def S22_1111010 (x' : Int) (y' : Int) (width' : Int) (height' : Int) (t60' : List PV) (t61' : Int) (t62' : Int) (b10_b0 : Int) (b10_b1 : Int) (b10_b2 : Int) (b10_b3 : Int) (b10_b4 : Int) (out_b0 : Int) (out_b1 : Int) (out_b2 : Int) (out_b3 : Int) (out_b4 : Int) : St := ⟨.undef :: (.p (.int .i64 x')) :: (.p (.int .i64 y')) :: (.p (.int .i64 width')) :: (.p (.int .i64 height')) :: .undef :: .undef :: .undef :: .undef :: .undef :: (.ptr 10 0 0) :: .undef :: (.ptr 12 0 0) :: .undef :: .undef :: .undef :: .undef :: .undef :: .undef :: .undef :: .undef :: .undef :: .undef :: .undef :: .undef :: .undef :: .undef :: .undef :: .undef :: .undef :: .undef :: .undef :: .undef :: .undef :: .undef :: .undef :: .undef :: .undef :: .undef :: .undef :: .undef :: .undef :: .undef :: .undef :: .undef :: .undef :: .undef :: .undef :: .undef :: .undef :: .undef :: .undef :: .undef :: .undef :: .undef :: .undef :: .undef :: .undef :: .undef :: .undef :: (.p (.list true [.int .i64, .int .i64, .int .i64, .int .u8, .int .u8, .int .u8] t60')) :: (.p (.int .i64 t61')) :: (.p (.int .i64 t62')) :: List.replicate 27 .undef, [(10, .box [.p (.int .i64 b10_b0), .p (.int .i64 b10_b1), .p (.int .u8 b10_b2), .p (.int .u8 b10_b3), .p (.int .u8 b10_b4), .p (.nil)]), (12, .box [.p (.int .i64 out_b0), .p (.int .i64 out_b1), .p (.int .u8 out_b2), .p (.int .u8 out_b3), .p (.int .u8 out_b4), .p (.nil)])]⟩
def S22_1111010_s1 (x' : Int) (y' : Int) (width' : Int) (height' : Int) (t60' : List PV) (t61' : Int) (t62' : Int) (b10_b0 : Int) (b10_b1 : Int) (b10_b2 : Int) (b10_b3 : Int) (b10_b4 : Int) (out_b0 : Int) (out_b1 : Int) (out_b2 : Int) (out_b3 : Int) (out_b4 : Int) (out_b5_o : Nat) (out_b5_l : Nat) (b86_b : List PV) : St := ⟨.undef :: (.p (.int .i64 x')) :: (.p (.int .i64 y')) :: (.p (.int .i64 width')) :: (.p (.int .i64 height')) :: .undef :: .undef :: .undef :: .undef :: .undef :: (.ptr 10 0 0) :: .undef :: (.ptr 12 0 0) :: .undef :: .undef :: .undef :: .undef :: .undef :: .undef :: .undef :: .undef :: .undef :: .undef :: .undef :: .undef :: .undef :: .undef :: .undef :: .undef :: .undef :: .undef :: .undef :: .undef :: .undef :: .undef :: .undef :: .undef :: .undef :: .undef :: .undef :: .undef :: .undef :: .undef :: .undef :: .undef :: .undef :: .undef :: .undef :: .undef :: .undef :: .undef :: .undef :: .undef :: .undef :: .undef :: .undef :: .undef :: .undef :: .undef :: .undef :: (.p (.list true [.int .i64, .int .i64, .int .i64, .int .u8, .int .u8, .int .u8] t60')) :: (.p (.int .i64 t61')) :: (.p (.int .i64 t62')) :: List.replicate 27 .undef, [(10, .box [.p (.int .i64 b10_b0), .p (.int .i64 b10_b1), .p (.int .u8 b10_b2), .p (.int .u8 b10_b3), .p (.int .u8 b10_b4), .p (.nil)]), (12, .box [.p (.int .i64 out_b0), .p (.int .i64 out_b1), .p (.int .u8 out_b2), .p (.int .u8 out_b3), .p (.int .u8 out_b4), .slice 86 6 out_b5_o out_b5_l]), (86, .arr true [.int .i64, .int .i64, .int .i64, .int .u8, .int .u8, .int .u8] b86_b)]⟩
theorem e22 (C : CallF) (p_0 : Int) (p_1 : Int) (p_2 : Int) (p_3 : Int) (p_4 : Int) (p_5 : List PV) (x : Int) (y : Int) (width : Int) (height : Int) : acallI tab C 22 [.p (.agg [.int .i64 p_0, .int .i64 p_1, .int .u8 p_2, .int .u8 p_3, .int .u8 p_4, .list true [.int .i64, .int .i64, .int .i64, .int .u8, .int .u8, .int .u8] p_5]), .p (.int .i64 x), .p (.int .i64 y), .p (.int .i64 width), .p (.int .i64 height)] [] =
  (C 11 [.p (.agg [.int .i64 p_0, .int .i64 p_1, .int .u8 p_2, .int .u8 p_3, .int .u8 p_4, .list true [.int .i64, .int .i64, .int .i64, .int .u8, .int .u8, .int .u8] p_5])] []).bind fun r1 =>
  bif (!(r1.1.headD .undef).pv.toBool) then
    some ([.p (.agg [.int .i64 0, .int .i64 0, .int .u8 0, .int .u8 0, .int .u8 0, .nil]), .p (.int .i64 2)], [])
  else
    bif (ltI (goMin width height) (1 : Int)) then
      some ([.p (.agg [.int .i64 0, .int .i64 0, .int .u8 0, .int .u8 0, .int .u8 0, .nil]), .p (.int .i64 2)], [])
    else
      (C 33 [.p (.int .i64 x), .p (.int .i64 0), .p (.int .i64 p_0)] []).bind fun r2 =>
      bif (!(r2.1.headD .undef).pv.toBool) then
        some ([.p (.agg [.int .i64 0, .int .i64 0, .int .u8 0, .int .u8 0, .int .u8 0, .nil]), .p (.int .i64 3)], [])
      else
        (C 33 [.p (.int .i64 y), .p (.int .i64 0), .p (.int .i64 p_1)] []).bind fun r3 =>
        bif (!(r3.1.headD .undef).pv.toBool) then
          some ([.p (.agg [.int .i64 0, .int .i64 0, .int .u8 0, .int .u8 0, .int .u8 0, .nil]), .p (.int .i64 3)], [])
        else
          bif (gtI width (IntKind.i64.wrap (p_0 - x))) then
            some ([.p (.agg [.int .i64 0, .int .i64 0, .int .u8 0, .int .u8 0, .int .u8 0, .nil]), .p (.int .i64 3)], [])
          else
            bif (gtI height (IntKind.i64.wrap (p_1 - y))) then
              some ([.p (.agg [.int .i64 0, .int .i64 0, .int .u8 0, .int .u8 0, .int .u8 0, .nil]), .p (.int .i64 3)], [])
            else
              L tab C 22 [] [.lp [1, 1, 1, 1, 0, 1, 0]] (S22_1111010 x y width height p_5 ((p_5.length : Nat) : Int) 0 0 0 0 0 0 width height p_2 p_3 p_4) := by kernel_rfl
theorem e22_1111010 (C : CallF) (x' : Int) (y' : Int) (width' : Int) (height' : Int) (t60' : List PV) (t61' : Int) (t62' : Int) (b10_b0 : Int) (b10_b1 : Int) (b10_b2 : Int) (b10_b3 : Int) (b10_b4 : Int) (out_b0 : Int) (out_b1 : Int) (out_b2 : Int) (out_b3 : Int) (out_b4 : Int) : R tab C 22 [] [.lp [1, 1, 1, 1, 0, 1, 0]] (S22_1111010 x' y' width' height' t60' t61' t62' b10_b0 b10_b1 b10_b2 b10_b3 b10_b4 out_b0 out_b1 out_b2 out_b3 out_b4) =
  bif (ltI t62' t61') then
    bif ((leI (0 : Int) t62') && (ltI t62' ((t60'.length : Nat) : Int))) then (C 47 [.p (.agg [.int .i64 (((t60'.getD t62'.toNat .nil).cell 0).toInt), .int .i64 (((t60'.getD t62'.toNat .nil).cell 1).toInt), .int .i64 (((t60'.getD t62'.toNat .nil).cell 2).toInt), .int .u8 (((t60'.getD t62'.toNat .nil).cell 3).toInt), .int .u8 (((t60'.getD t62'.toNat .nil).cell 4).toInt), .int .u8 (((t60'.getD t62'.toNat .nil).cell 5).toInt)]), .p (.int .i64 x'), .p (.int .i64 y'), .p (.int .i64 width'), .p (.int .i64 height')] []).bind fun r1 =>
    bif (r1.1.headD .undef).pv.toBool then
      L tab C 22 [] [.lp [1, 1, 1, 1, 0, 1, 0]] (S22_1111010_s1 x' y' width' height' t60' t61' (IntKind.i64.wrap (t62' + (1 : Int))) b10_b0 b10_b1 b10_b2 b10_b3 b10_b4 out_b0 out_b1 out_b2 out_b3 out_b4 0 1 [.agg [.int .i64 (IntKind.i64.wrap (((t60'.getD t62'.toNat .nil).cell 0).toInt - x')), .int .i64 (IntKind.i64.wrap (((t60'.getD t62'.toNat .nil).cell 1).toInt - y')), .int .i64 (((t60'.getD t62'.toNat .nil).cell 2).toInt), .int .u8 (((t60'.getD t62'.toNat .nil).cell 3).toInt), .int .u8 (((t60'.getD t62'.toNat .nil).cell 4).toInt), .int .u8 (((t60'.getD t62'.toNat .nil).cell 5).toInt)]])
    else
      L tab C 22 [] [.lp [1, 1, 1, 1, 0, 1, 0]] (S22_1111010 x' y' width' height' t60' t61' (IntKind.i64.wrap (t62' + (1 : Int))) b10_b0 b10_b1 b10_b2 b10_b3 b10_b4 out_b0 out_b1 out_b2 out_b3 out_b4) else none
  else
    some ([.p (.agg [.int .i64 out_b0, .int .i64 out_b1, .int .u8 out_b2, .int .u8 out_b3, .int .u8 out_b4, .nil]), .p (.int .i64 0)], []) := by kernel_rfl
theorem e22_1111010_s1 (C : CallF) (x' : Int) (y' : Int) (width' : Int) (height' : Int) (t60' : List PV) (t61' : Int) (t62' : Int) (b10_b0 : Int) (b10_b1 : Int) (b10_b2 : Int) (b10_b3 : Int) (b10_b4 : Int) (out_b0 : Int) (out_b1 : Int) (out_b2 : Int) (out_b3 : Int) (out_b4 : Int) (out_b5_o : Nat) (out_b5_l : Nat) (b86_b : List PV) : R tab C 22 [] [.lp [1, 1, 1, 1, 0, 1, 0]] (S22_1111010_s1 x' y' width' height' t60' t61' t62' b10_b0 b10_b1 b10_b2 b10_b3 b10_b4 out_b0 out_b1 out_b2 out_b3 out_b4 out_b5_o out_b5_l b86_b) =
  bif (ltI t62' t61') then
    bif ((leI (0 : Int) t62') && (ltI t62' ((t60'.length : Nat) : Int))) then (C 47 [.p (.agg [.int .i64 (((t60'.getD t62'.toNat .nil).cell 0).toInt), .int .i64 (((t60'.getD t62'.toNat .nil).cell 1).toInt), .int .i64 (((t60'.getD t62'.toNat .nil).cell 2).toInt), .int .u8 (((t60'.getD t62'.toNat .nil).cell 3).toInt), .int .u8 (((t60'.getD t62'.toNat .nil).cell 4).toInt), .int .u8 (((t60'.getD t62'.toNat .nil).cell 5).toInt)]), .p (.int .i64 x'), .p (.int .i64 y'), .p (.int .i64 width'), .p (.int .i64 height')] []).bind fun r1 =>
    bif (r1.1.headD .undef).pv.toBool then
      bif (leN (out_b5_l + 1) 2147483648) then L tab C 22 [] [.lp [1, 1, 1, 1, 0, 1, 0]] (S22_1111010_s1 x' y' width' height' t60' t61' (IntKind.i64.wrap (t62' + (1 : Int))) b10_b0 b10_b1 b10_b2 b10_b3 b10_b4 out_b0 out_b1 out_b2 out_b3 out_b4 0 (out_b5_l + 1) (((b86_b.drop out_b5_o).take out_b5_l) ++ ([.agg [.int .i64 (IntKind.i64.wrap (((t60'.getD t62'.toNat .nil).cell 0).toInt - x')), .int .i64 (IntKind.i64.wrap (((t60'.getD t62'.toNat .nil).cell 1).toInt - y')), .int .i64 (((t60'.getD t62'.toNat .nil).cell 2).toInt), .int .u8 (((t60'.getD t62'.toNat .nil).cell 3).toInt), .int .u8 (((t60'.getD t62'.toNat .nil).cell 4).toInt), .int .u8 (((t60'.getD t62'.toNat .nil).cell 5).toInt)]] : List PV))) else none
    else
      L tab C 22 [] [.lp [1, 1, 1, 1, 0, 1, 0]] (S22_1111010_s1 x' y' width' height' t60' t61' (IntKind.i64.wrap (t62' + (1 : Int))) b10_b0 b10_b1 b10_b2 b10_b3 b10_b4 out_b0 out_b1 out_b2 out_b3 out_b4 out_b5_o out_b5_l b86_b) else none
  else
    some ([.p (.agg [.int .i64 out_b0, .int .i64 out_b1, .int .u8 out_b2, .int .u8 out_b3, .int .u8 out_b4, .list true [.int .i64, .int .i64, .int .i64, .int .u8, .int .u8, .int .u8] ((b86_b.drop out_b5_o).take out_b5_l)]), .p (.int .i64 0)], []) := by kernel_rfl
def S24_101111010 (t34_c0_r0 : List PV) (x_b0 : Int) (y_b0 : Int) (b6_b0 : Int) (b6_b1 : Int) (b6_b2 : Int) (c_b0 : Int) (c_b1 : Int) (c_b2 : Int) : St := ⟨.undef :: .undef :: .undef :: .undef :: (.ptr 4 0 0) :: (.ptr 5 0 0) :: (.ptr 6 0 0) :: .undef :: (.ptr 8 0 0) :: .undef :: .undef :: .undef :: .undef :: .undef :: .undef :: .undef :: .undef :: .undef :: .undef :: .undef :: .undef :: .undef :: .undef :: .undef :: .undef :: .undef :: .undef :: .undef :: .undef :: .undef :: .undef :: .undef :: .undef :: .undef :: (.p (.fn 63 [.ref [.list true [.int .i64, .int .i64, .int .i64, .int .u8, .int .u8, .int .u8] t34_c0_r0]])) :: List.replicate 9 .undef, [(4, .box [.p (.int .i64 x_b0)]), (5, .box [.p (.int .i64 y_b0)]), (6, .box [.p (.int .u8 b6_b0), .p (.int .u8 b6_b1), .p (.int .u8 b6_b2)]), (8, .box [.p (.int .u8 c_b0), .p (.int .u8 c_b1), .p (.int .u8 c_b2)])]⟩
theorem e24 (C : CallF) (p_0 : Int) (p_1 : Int) (p_2 : Int) (p_3 : Int) (p_4 : Int) (p_5 : List PV) (x : Int) (y : Int) : acallI tab C 24 [.p (.agg [.int .i64 p_0, .int .i64 p_1, .int .u8 p_2, .int .u8 p_3, .int .u8 p_4, .list true [.int .i64, .int .i64, .int .i64, .int .u8, .int .u8, .int .u8] p_5]), .p (.int .i64 x), .p (.int .i64 y)] [] =
  (C 11 [.p (.agg [.int .i64 p_0, .int .i64 p_1, .int .u8 p_2, .int .u8 p_3, .int .u8 p_4, .list true [.int .i64, .int .i64, .int .i64, .int .u8, .int .u8, .int .u8] p_5])] []).bind fun r1 =>
  bif (!(r1.1.headD .undef).pv.toBool) then
    some ([.p (.agg [.int .u8 0, .int .u8 0, .int .u8 0]), .p (.int .i64 2)], [])
  else
    (C 33 [.p (.int .i64 x), .p (.int .i64 0), .p (.int .i64 (IntKind.i64.wrap (p_0 - (1 : Int))))] []).bind fun r2 =>
    bif (!(r2.1.headD .undef).pv.toBool) then
      some ([.p (.agg [.int .u8 0, .int .u8 0, .int .u8 0]), .p (.int .i64 3)], [])
    else
      (C 33 [.p (.int .i64 y), .p (.int .i64 0), .p (.int .i64 (IntKind.i64.wrap (p_1 - (1 : Int))))] []).bind fun r3 =>
      bif (!(r3.1.headD .undef).pv.toBool) then
        some ([.p (.agg [.int .u8 0, .int .u8 0, .int .u8 0]), .p (.int .i64 3)], [])
      else
        (C 49 [.p (.list true [.int .i64, .int .i64, .int .i64, .int .u8, .int .u8, .int .u8] p_5)] []).bind fun r4 =>
        (C 63 [.yld, .p (.ref [.list true [.int .i64, .int .i64, .int .i64, .int .u8, .int .u8, .int .u8] ((((r4.1.headD .undef).pv.cap 0).rcell 0).toList)])] [.log true []]).bind fun r5 =>
        L tab C 24 [] [.rg [1, 0, 1, 1, 1, 1, 0, 1, 0] [(false, [.int .i64]), (true, [.int .i64, .int .i64, .int .i64, .int .u8, .int .u8, .int .u8])] (logOf r5.2)] (S24_101111010 ((((r4.1.headD .undef).pv.cap 0).rcell 0).toList) x y 0 0 0 p_2 p_3 p_4) := by kernel_rfl
theorem e24_101111010_nil (C : CallF) (t34_c0_r0 : List PV) (x_b0 : Int) (y_b0 : Int) (b6_b0 : Int) (b6_b1 : Int) (b6_b2 : Int) (c_b0 : Int) (c_b1 : Int) (c_b2 : Int) : L tab C 24 [] [.rg [1, 0, 1, 1, 1, 1, 0, 1, 0] [(false, [.int .i64]), (true, [.int .i64, .int .i64, .int .i64, .int .u8, .int .u8, .int .u8])] []] (S24_101111010 t34_c0_r0 x_b0 y_b0 b6_b0 b6_b1 b6_b2 c_b0 c_b1 c_b2) =
  some ([.p (.agg [.int .u8 c_b0, .int .u8 c_b1, .int .u8 c_b2]), .p (.int .i64 0)], []) := by kernel_rfl
theorem e24_101111010_cons (C : CallF) (t34_c0_r0 : List PV) (x_b0 : Int) (y_b0 : Int) (b6_b0 : Int) (b6_b1 : Int) (b6_b2 : Int) (c_b0 : Int) (c_b1 : Int) (c_b2 : Int) (y0 : Int) (y1_0 : Int) (y1_1 : Int) (y1_2 : Int) (y1_3 : Int) (y1_4 : Int) (y1_5 : Int) (ys : List PV) : L tab C 24 [] [.rg [1, 0, 1, 1, 1, 1, 0, 1, 0] [(false, [.int .i64]), (true, [.int .i64, .int .i64, .int .i64, .int .u8, .int .u8, .int .u8])] (.agg [.int .i64 y0, .agg [.int .i64 y1_0, .int .i64 y1_1, .int .i64 y1_2, .int .u8 y1_3, .int .u8 y1_4, .int .u8 y1_5]] :: ys)] (S24_101111010 t34_c0_r0 x_b0 y_b0 b6_b0 b6_b1 b6_b2 c_b0 c_b1 c_b2) =
  (C 47 [.p (.agg [.int .i64 y1_0, .int .i64 y1_1, .int .i64 y1_2, .int .u8 y1_3, .int .u8 y1_4, .int .u8 y1_5]), .p (.int .i64 x_b0), .p (.int .i64 y_b0), .p (.int .i64 1), .p (.int .i64 1)] []).bind fun r1 =>
  bif (r1.1.headD .undef).pv.toBool then
    some ([.p (.agg [.int .u8 y1_3, .int .u8 y1_4, .int .u8 y1_5]), .p (.int .i64 0)], [])
  else
    L tab C 24 [] [.rg [1, 0, 1, 1, 1, 1, 0, 1, 0] [(false, [.int .i64]), (true, [.int .i64, .int .i64, .int .i64, .int .u8, .int .u8, .int .u8])] ys] (S24_101111010 t34_c0_r0 x_b0 y_b0 b6_b0 b6_b1 b6_b2 c_b0 c_b1 c_b2) := by kernel_rfl
theorem e30 (C : CallF)  : acallI tab C 30 [] [] =
  some ([.p (.agg [.int .i64 20, .int .i64 10, .int .u8 0, .int .u8 0, .int .u8 0, .list true [.int .i64, .int .i64, .int .i64, .int .u8, .int .u8, .int .u8] [.agg [.int .i64 5, .int .i64 5, .int .i64 2, .int .u8 255, .int .u8 0, .int .u8 0], .agg [.int .i64 7, .int .i64 5, .int .i64 1, .int .u8 0, .int .u8 0, .int .u8 255]]])], []) := by kernel_rfl
theorem e31 (C : CallF) (p_0 : Int) (p_1 : Int) (p_2 : Int) (p_3 : Int) (p_4 : Int) (p_5 : List PV) (x : Int) (y : Int) (want_0 : Int) (want_1 : Int) (want_2 : Int) : acallI tab C 31 [.p (.agg [.int .i64 p_0, .int .i64 p_1, .int .u8 p_2, .int .u8 p_3, .int .u8 p_4, .list true [.int .i64, .int .i64, .int .i64, .int .u8, .int .u8, .int .u8] p_5]), .p (.int .i64 x), .p (.int .i64 y), .p (.agg [.int .u8 want_0, .int .u8 want_1, .int .u8 want_2])] [] =
  (C 24 [.p (.agg [.int .i64 p_0, .int .i64 p_1, .int .u8 p_2, .int .u8 p_3, .int .u8 p_4, .list true [.int .i64, .int .i64, .int .i64, .int .u8, .int .u8, .int .u8] p_5]), .p (.int .i64 x), .p (.int .i64 y)] []).bind fun r1 =>
  bif ((r1.1.tail.headD .undef).pv.toInt == (0 : Int)) then
    some ([.p (.bool ((((r1.1.headD .undef).pv.cell 0).toInt == want_0) && ((((r1.1.headD .undef).pv.cell 1).toInt == want_1) && ((((r1.1.headD .undef).pv.cell 2).toInt == want_2) && true))))], [])
  else
    some ([.p (.bool false)], []) := by kernel_rfl
theorem e32 (C : CallF) (d_0 : Int) (d_1 : Int) (d_2 : Int) (d_3 : Int) (d_4 : Int) (d_5 : Int) : acallI tab C 32 [.p (.agg [.int .i64 d_0, .int .i64 d_1, .int .i64 d_2, .int .u8 d_3, .int .u8 d_4, .int .u8 d_5])] [] =
  (C 33 [.p (.int .i64 d_0), .p (.int .i64 (-8192)), .p (.int .i64 8192)] []).bind fun r1 =>
  bif (!(r1.1.headD .undef).pv.toBool) then
    some ([.p (.bool true)], [])
  else
    (C 33 [.p (.int .i64 d_1), .p (.int .i64 (-8192)), .p (.int .i64 8192)] []).bind fun r2 =>
    bif (!(r2.1.headD .undef).pv.toBool) then
      some ([.p (.bool true)], [])
    else
      (C 33 [.p (.int .i64 d_2), .p (.int .i64 1), .p (.int .i64 4096)] []).bind fun r3 =>
      some ([.p (.bool (!(r3.1.headD .undef).pv.toBool))], []) := by kernel_rfl
theorem e33 (C : CallF) (n_ : Int) (low : Int) (high : Int) : acallI tab C 33 [.p (.int .i64 n_), .p (.int .i64 low), .p (.int .i64 high)] [] =
  bif (leI low n_) then
    some ([.p (.bool (leI n_ high))], [])
  else
    some ([.p (.bool false)], []) := by kernel_rfl
theorem e34 (C : CallF) (n_ : Int) (low : Int) (high : Int) : acallI tab C 34 [.p (.int .i64 n_), .p (.int .i64 low), .p (.int .i64 high)] [] =
  bif (geI n_ low) then
    some ([.p (.bool (leI n_ high))], [])
  else
    some ([.p (.bool false)], []) := by kernel_rfl
def S36_111010 (t12' : List PV) (t13' : Int) (t14' : Int) (c_b0 : Int) (c_b1 : Int) (c_b2 : Int) (b11_b : List PV) : St := ⟨.undef :: .undef :: .undef :: .undef :: (.ptr 4 0 0) :: .undef :: .undef :: (.ptr 7 0 0) :: .undef :: .undef :: .undef :: .undef :: (.p (.list false [.int .i64] t12')) :: (.p (.int .i64 t13')) :: (.p (.int .i64 t14')) :: List.replicate 14 .undef, [(4, .box [.p (.int .u8 c_b0), .p (.int .u8 c_b1), .p (.int .u8 c_b2)]), (7, .tb 70 (.ptr 7 0 0) (.mref 11)), (11, .br 5 b11_b)]⟩
theorem e36 (C : CallF) (word : ByteArray) (c_0 : Int) (c_1 : Int) (c_2 : Int) (numbers : List PV) : acallI tab C 36 [.p (.str word), .p (.agg [.int .u8 c_0, .int .u8 c_1, .int .u8 c_2]), .p (.list false [.int .i64] numbers)] [] =
  bif (leN word.size 2147483648) then L tab C 36 [] [.lp [1, 1, 1, 0, 1, 0]] (S36_111010 numbers ((numbers.length : Nat) : Int) 0 c_0 c_1 c_2 (strPVs word)) else none := by kernel_rfl
theorem e36_111010 (C : CallF) (t12' : List PV) (t13' : Int) (t14' : Int) (c_b0 : Int) (c_b1 : Int) (c_b2 : Int) (b11_b : List PV) : R tab C 36 [] [.lp [1, 1, 1, 0, 1, 0]] (S36_111010 t12' t13' t14' c_b0 c_b1 c_b2 b11_b) =
  bif (ltI t14' t13') then
    bif ((leI (0 : Int) t14') && (ltI t14' ((t12'.length : Nat) : Int))) then bif (leN (b11_b.length + 1) 2147483648) then (C 54 [.p (.int .i64 (((t12'.getD t14'.toNat .nil).cell 0).toInt))] []).bind fun r1 =>
    bif (leN ((b11_b ++ ([.int .u8 32] : List PV)).length + ((r1.1.headD .undef).pv.toStr).size) 2147483648) then L tab C 36 [] [.lp [1, 1, 1, 0, 1, 0]] (S36_111010 t12' t13' (IntKind.i64.wrap (t14' + (1 : Int))) c_b0 c_b1 c_b2 ((b11_b ++ ([.int .u8 32] : List PV)) ++ (strPVs ((r1.1.headD .undef).pv.toStr)))) else none else none else none
  else
    bif (leN b11_b.length 2147483648) then bif (b11_b.all PV.isByte) then bif (leN ((bytesOf b11_b).size + (⟨#[32]⟩ : ByteArray).size) 4611686018427387904) then (C 55 [.p (.agg [.int .u8 c_b0, .int .u8 c_b1, .int .u8 c_b2])] []).bind fun r2 =>
    bif (leN (((bytesOf b11_b) ++ (⟨#[32]⟩ : ByteArray)).size + ((r2.1.headD .undef).pv.toStr).size) 4611686018427387904) then bif (leN ((((bytesOf b11_b) ++ (⟨#[32]⟩ : ByteArray)) ++ (r2.1.headD .undef).pv.toStr).size + (⟨#[10]⟩ : ByteArray).size) 4611686018427387904) then some ([.p (.str ((((bytesOf b11_b) ++ (⟨#[32]⟩ : ByteArray)) ++ (r2.1.headD .undef).pv.toStr) ++ (⟨#[10]⟩ : ByteArray)))], []) else none else none else none else none else none := by kernel_rfl
theorem e40 (C : CallF) (s : ByteArray) (suffix : ByteArray) : acallI tab C 40 [.p (.str s), .p (.str suffix)] [] =
  (C 56 [.p (.str s), .p (.str suffix)] []).bind fun r1 =>
  some ([.p (.str ((r1.1.headD .undef).pv.toStr)), .p (.bool ((r1.1.tail.headD .undef).pv.toBool))], []) := by kernel_rfl
def S42_1111010 (many' : Int) (w_o : Nat) (w_l : Nat) (out_o : Nat) (out_l : Nat) (t35_o : Nat) (t35_l : Nat) (t36' : Int) (t37' : Int) (b7_b0 : Int) (b7_b1 : Int) (b7_b2 : Int) (w_b : List PV) (out_b : List PV) : St := ⟨.undef :: .undef :: (.p (.int .i64 many')) :: .undef :: .undef :: .undef :: .undef :: (.ptr 7 0 0) :: .undef :: (.slice 9 1 w_o w_l) :: (.slice 10 1 out_o out_l) :: .undef :: .undef :: .undef :: .undef :: .undef :: .undef :: .undef :: .undef :: .undef :: .undef :: .undef :: .undef :: .undef :: .undef :: .undef :: .undef :: .undef :: .undef :: .undef :: .undef :: .undef :: .undef :: .undef :: .undef :: (.slice 9 1 t35_o t35_l) :: (.p (.int .i64 t36')) :: (.p (.int .i64 t37')) :: List.replicate 35 .undef, [(7, .box [.p (.int .u8 b7_b0), .p (.int .u8 b7_b1), .p (.int .u8 b7_b2)]), (9, .arr false [.str] w_b), (10, .arr false [.int .i64] out_b)]⟩
theorem e42 (C : CallF) (s : ByteArray) (word : ByteArray) (many : Int) : acallI tab C 42 [.p (.str s), .p (.str word), .p (.int .i64 many)] [] =
  (C 58 [.p (.str s), .p (.str ⟨#[32]⟩)] []).bind fun r1 =>
  bif ((((r1.1.headD .undef).freshList.length : Nat) : Int) != (IntKind.i64.wrap (many + (2 : Int)))) then
    some ([.fresh false [.int .i64] [], .p (.agg [.int .u8 0, .int .u8 0, .int .u8 0]), .p (.bool false)], [])
  else
    bif (ltI (0 : Int) (((r1.1.headD .undef).freshList.length : Nat) : Int)) then bif (!((((((r1.1.headD .undef).freshList).getD 0 .nil).cell 0).toStr).toList == word.toList)) then
      some ([.fresh false [.int .i64] [], .p (.agg [.int .u8 0, .int .u8 0, .int .u8 0]), .p (.bool false)], [])
    else
      bif ((leI (1 : Int) (IntKind.i64.wrap (many + (1 : Int)))) && ((leI (IntKind.i64.wrap (many + (1 : Int))) (((r1.1.headD .undef).freshList.length : Nat) : Int)) && (leI (((r1.1.headD .undef).freshList.length : Nat) : Int) (((r1.1.headD .undef).freshList.length : Nat) : Int)))) then L tab C 42 [] [.lp [1, 1, 1, 1, 0, 1, 0]] (S42_1111010 many 0 ((r1.1.headD .undef).freshList.length) 0 0 1 (((IntKind.i64.wrap (many + (1 : Int))) - (1 : Int)).toNat) ((((IntKind.i64.wrap (many + (1 : Int))) - (1 : Int)).toNat : Nat) : Int) 0 0 0 0 ((r1.1.headD .undef).freshList) []) else none else none := by kernel_rfl
theorem e42_1111010 (C : CallF) (many' : Int) (w_o : Nat) (w_l : Nat) (out_o : Nat) (out_l : Nat) (t35_o : Nat) (t35_l : Nat) (t36' : Int) (t37' : Int) (b7_b0 : Int) (b7_b1 : Int) (b7_b2 : Int) (w_b : List PV) (out_b : List PV) : R tab C 42 [] [.lp [1, 1, 1, 1, 0, 1, 0]] (S42_1111010 many' w_o w_l out_o out_l t35_o t35_l t36' t37' b7_b0 b7_b1 b7_b2 w_b out_b) =
  bif (ltI t37' t36') then
    bif ((leI (0 : Int) t37') && (ltI t37' (t35_l : Int))) then (C 59 [.p (.str (((w_b.getD (t35_o + t37'.toNat) .nil).cell 0).toStr))] []).bind fun r1 =>
    bif (true && (r1.1.tail.headD .undef).pv.isI) then bif (!(r1.1.tail.headD .undef).pv.isNilI) then
      some ([.fresh false [.int .i64] [], .p (.agg [.int .u8 0, .int .u8 0, .int .u8 0]), .p (.bool false)], [])
    else
      (C 54 [.p (.int .i64 ((r1.1.headD .undef).pv.toInt))] []).bind fun r2 =>
      bif (!(((r2.1.headD .undef).pv.toStr).toList == (((w_b.getD (t35_o + t37'.toNat) .nil).cell 0).toStr).toList)) then
        some ([.fresh false [.int .i64] [], .p (.agg [.int .u8 0, .int .u8 0, .int .u8 0]), .p (.bool false)], [])
      else
        bif (leN (out_l + 1) 2147483648) then L tab C 42 [] [.lp [1, 1, 1, 1, 0, 1, 0]] (S42_1111010 many' w_o w_l 0 (out_l + 1) t35_o t35_l t36' (IntKind.i64.wrap (t37' + (1 : Int))) b7_b0 b7_b1 b7_b2 w_b (((out_b.drop out_o).take out_l) ++ ([.int .i64 ((r1.1.headD .undef).pv.toInt)] : List PV))) else none else none else none
  else
    bif ((leI (0 : Int) (IntKind.i64.wrap (many' + (1 : Int)))) && (ltI (IntKind.i64.wrap (many' + (1 : Int))) (w_l : Int))) then (C 60 [.p (.str (((w_b.getD (w_o + (IntKind.i64.wrap (many' + (1 : Int))).toNat) .nil).cell 0).toStr))] []).bind fun r3 =>
    some ([.fresh false [.int .i64] ((out_b.drop out_o).take out_l), .p (.agg [.int .u8 (((r3.1.headD .undef).pv.cell 0).toInt), .int .u8 (((r3.1.headD .undef).pv.cell 1).toInt), .int .u8 (((r3.1.headD .undef).pv.cell 2).toInt)]), .p (.bool ((r3.1.tail.headD .undef).pv.toInt == (0 : Int)))], []) else none := by kernel_rfl
def S46_11010 (slices' : List PV) (size' : Int) (t9' : List PV) (t10' : Int) (t11' : Int) : St := ⟨(.p (.list false [.slice true [.int .i64, .int .i64, .int .i64, .int .u8, .int .u8, .int .u8]] slices')) :: .undef :: .undef :: (.p (.int .i64 size')) :: .undef :: .undef :: .undef :: .undef :: .undef :: (.p (.list false [.slice true [.int .i64, .int .i64, .int .i64, .int .u8, .int .u8, .int .u8]] t9')) :: (.p (.int .i64 t10')) :: (.p (.int .i64 t11')) :: List.replicate 24 .undef, []⟩
def S46_1111010 (newslice_o : Nat) (newslice_l : Nat) (t25' : List PV) (t26' : Int) (t27' : Int) (newslice_b : List PV) : St := ⟨.undef :: .undef :: .undef :: .undef :: .undef :: .undef :: (.slice 6 6 newslice_o newslice_l) :: .undef :: .undef :: .undef :: .undef :: .undef :: .undef :: .undef :: .undef :: .undef :: .undef :: .undef :: .undef :: .undef :: .undef :: .undef :: .undef :: .undef :: .undef :: (.p (.list false [.slice true [.int .i64, .int .i64, .int .i64, .int .u8, .int .u8, .int .u8]] t25')) :: (.p (.int .i64 t26')) :: (.p (.int .i64 t27')) :: List.replicate 8 .undef, [(6, .arr true [.int .i64, .int .i64, .int .i64, .int .u8, .int .u8, .int .u8] newslice_b)]⟩
theorem e46 (C : CallF) (slices : List PV) : acallI tab C 46 [.p (.list false [.slice true [.int .i64, .int .i64, .int .i64, .int .u8, .int .u8, .int .u8]] slices)] [] =
  L tab C 46 [] [.lp [1, 1, 0, 1, 0]] (S46_11010 slices 0 slices ((slices.length : Nat) : Int) 0) := by kernel_rfl
theorem e46_11010 (C : CallF) (slices' : List PV) (size' : Int) (t9' : List PV) (t10' : Int) (t11' : Int) : R tab C 46 [] [.lp [1, 1, 0, 1, 0]] (S46_11010 slices' size' t9' t10' t11') =
  bif (ltI t11' t10') then
    bif ((leI (0 : Int) t11') && (ltI t11' ((t9'.length : Nat) : Int))) then bif (ltI (IntKind.i64.wrap (size' + (((((t9'.getD t11'.toNat .nil).cell 0).toList).length : Nat) : Int))) (0 : Int)) then
      none
    else
      L tab C 46 [] [.lp [1, 1, 0, 1, 0]] (S46_11010 slices' (IntKind.i64.wrap (size' + (((((t9'.getD t11'.toNat .nil).cell 0).toList).length : Nat) : Int))) t9' t10' (IntKind.i64.wrap (t11' + (1 : Int)))) else none
  else
    (C 62 [.p (.nil), .p (.int .i64 size')] []).bind fun r1 =>
    L tab C 46 [] [.lp [1, 1, 1, 1, 0, 1, 0]] (S46_1111010 0 ((r1.1.headD .undef).freshList.length) slices' ((slices'.length : Nat) : Int) 0 ((r1.1.headD .undef).freshList)) := by kernel_rfl
theorem e46_1111010 (C : CallF) (newslice_o : Nat) (newslice_l : Nat) (t25' : List PV) (t26' : Int) (t27' : Int) (newslice_b : List PV) : R tab C 46 [] [.lp [1, 1, 1, 1, 0, 1, 0]] (S46_1111010 newslice_o newslice_l t25' t26' t27' newslice_b) =
  bif (ltI t27' t26') then
    bif ((leI (0 : Int) t27') && (ltI t27' ((t25'.length : Nat) : Int))) then bif (leN (newslice_l + (((t25'.getD t27'.toNat .nil).cell 0).toList).length) 2147483648) then L tab C 46 [] [.lp [1, 1, 1, 1, 0, 1, 0]] (S46_1111010 0 (newslice_l + (((t25'.getD t27'.toNat .nil).cell 0).toList).length) t25' t26' (IntKind.i64.wrap (t27' + (1 : Int))) (((newslice_b.drop newslice_o).take newslice_l) ++ (((t25'.getD t27'.toNat .nil).cell 0).toList))) else none else none
  else
    some ([.fresh true [.int .i64, .int .i64, .int .i64, .int .u8, .int .u8, .int .u8] ((newslice_b.drop newslice_o).take newslice_l)], []) := by kernel_rfl
theorem e47 (C : CallF) (d_0 : Int) (d_1 : Int) (d_2 : Int) (d_3 : Int) (d_4 : Int) (d_5 : Int) (x : Int) (y : Int) (width : Int) (height : Int) : acallI tab C 47 [.p (.agg [.int .i64 d_0, .int .i64 d_1, .int .i64 d_2, .int .u8 d_3, .int .u8 d_4, .int .u8 d_5]), .p (.int .i64 x), .p (.int .i64 y), .p (.int .i64 width), .p (.int .i64 height)] [] =
  some ([.p (.bool (leI (IntKind.i64.wrap ((IntKind.i64.wrap ((IntKind.i64.wrap ((goMin (goMax d_0 x) (IntKind.i64.wrap ((IntKind.i64.wrap (x + width)) - (1 : Int)))) - d_0)) * (IntKind.i64.wrap ((goMin (goMax d_0 x) (IntKind.i64.wrap ((IntKind.i64.wrap (x + width)) - (1 : Int)))) - d_0)))) + (IntKind.i64.wrap ((IntKind.i64.wrap ((goMin (goMax d_1 y) (IntKind.i64.wrap ((IntKind.i64.wrap (y + height)) - (1 : Int)))) - d_1)) * (IntKind.i64.wrap ((goMin (goMax d_1 y) (IntKind.i64.wrap ((IntKind.i64.wrap (y + height)) - (1 : Int)))) - d_1)))))) (IntKind.i64.wrap (d_2 * d_2))))], []) := by kernel_rfl
theorem e49 (C : CallF) (s : List PV) : acallI tab C 49 [.p (.list true [.int .i64, .int .i64, .int .i64, .int .u8, .int .u8, .int .u8] s)] [] =
  some ([.p (.fn 63 [.ref [.list true [.int .i64, .int .i64, .int .i64, .int .u8, .int .u8, .int .u8] s]])], []) := by kernel_rfl
def S51_11111100 (newslice_o : Nat) (newslice_l : Nat) (n_' : Int) (newslice_b : List PV) : St := ⟨.undef :: .undef :: .undef :: .undef :: .undef :: .undef :: .undef :: (.slice 7 3 newslice_o newslice_l) :: (.p (.int .i64 n_')) :: List.replicate 39 .undef, [(7, .arr true [.int .u8, .int .u8, .int .u8] newslice_b)]⟩
theorem e51 (C : CallF) (x : List PV) (count : Int) : acallI tab C 51 [.p (.list true [.int .u8, .int .u8, .int .u8] x), .p (.int .i64 count)] [] =
  bif (ltI count (0 : Int)) then
    none
  else
    (C 64 [.p (.int .u64 (IntKind.u64.wrap ((x.length : Nat) : Int))), .p (.int .u64 (IntKind.u64.wrap count))] []).bind fun r1 =>
    bif (gtI ((r1.1.headD .undef).pv.toInt) (0 : Int)) then
      none
    else
      bif (gtI ((r1.1.tail.headD .undef).pv.toInt) (9223372036854775807 : Int)) then
        none
      else
        bif ((leI (0 : Int) (IntKind.i64.wrap ((r1.1.tail.headD .undef).pv.toInt))) && ((leI (IntKind.i64.wrap ((r1.1.tail.headD .undef).pv.toInt)) (IntKind.i64.wrap ((r1.1.tail.headD .undef).pv.toInt))) && (leI (IntKind.i64.wrap ((r1.1.tail.headD .undef).pv.toInt)) (2147483648 : Int)))) then L tab C 51 [] [.lp [1, 1, 1, 1, 1, 1, 0, 0]] (S51_11111100 0 ((IntKind.i64.wrap ((r1.1.tail.headD .undef).pv.toInt)).toNat) (((Nat.min x.length ((IntKind.i64.wrap ((r1.1.tail.headD .undef).pv.toInt)).toNat)) : Nat) : Int) (patch (List.replicate ((IntKind.i64.wrap ((r1.1.tail.headD .undef).pv.toInt)).toNat) (PV.agg [.int .u8 0, .int .u8 0, .int .u8 0])) 0 (x.take (Nat.min x.length ((IntKind.i64.wrap ((r1.1.tail.headD .undef).pv.toInt)).toNat))))) else none := by kernel_rfl
theorem e51_11111100 (C : CallF) (newslice_o : Nat) (newslice_l : Nat) (n_' : Int) (newslice_b : List PV) : R tab C 51 [] [.lp [1, 1, 1, 1, 1, 1, 0, 0]] (S51_11111100 newslice_o newslice_l n_' newslice_b) =
  bif (ltI n_' (newslice_l : Int)) then
    bif ((leI (0 : Int) n_') && ((leI n_' (newslice_l : Int)) && ((leI (newslice_l : Int) (newslice_l : Int)) && (leI (newslice_l : Int) (newslice_l : Int))))) then bif ((leI (0 : Int) n_') && ((leI n_' (newslice_l : Int)) && (leI (newslice_l : Int) (newslice_l : Int)))) then L tab C 51 [] [.lp [1, 1, 1, 1, 1, 1, 0, 0]] (S51_11111100 newslice_o newslice_l (IntKind.i64.wrap (n_' + (((Nat.min ((n_' - (0 : Int)).toNat) (((newslice_l : Int) - n_').toNat)) : Nat) : Int))) (patch newslice_b (newslice_o + n_'.toNat) (((newslice_b.drop (newslice_o + 0)).take ((n_' - (0 : Int)).toNat)).take (Nat.min ((n_' - (0 : Int)).toNat) (((newslice_l : Int) - n_').toNat))))) else none else none
  else
    some ([.fresh true [.int .u8, .int .u8, .int .u8] ((newslice_b.drop newslice_o).take newslice_l)], []) := by kernel_rfl
def S55_11010 (out_o : Nat) (out_l : Nat) (t14_o : Nat) (t14_l : Nat) (t15' : Int) (t16' : Int) (out_b : List PV) (b14_b : List PV) : St := ⟨.undef :: .undef :: .undef :: (.slice 3 1 out_o out_l) :: .undef :: .undef :: .undef :: .undef :: .undef :: .undef :: .undef :: .undef :: .undef :: .undef :: (.slice 14 1 t14_o t14_l) :: (.p (.int .i64 t15')) :: (.p (.int .i64 t16')) :: List.replicate 15 .undef, [(3, .arr false [.int .u8] out_b), (14, .arr false [.int .u8] b14_b)]⟩
theorem e55 (C : CallF) (c_0 : Int) (c_1 : Int) (c_2 : Int) : acallI tab C 55 [.p (.agg [.int .u8 c_0, .int .u8 c_1, .int .u8 c_2])] [] =
  L tab C 55 [] [.lp [1, 1, 0, 1, 0]] (S55_11010 0 1 0 3 3 0 [.int .u8 35] [.int .u8 c_0, .int .u8 c_1, .int .u8 c_2]) := by kernel_rfl
theorem e55_11010 (C : CallF) (out_o : Nat) (out_l : Nat) (t14_o : Nat) (t14_l : Nat) (t15' : Int) (t16' : Int) (out_b : List PV) (b14_b : List PV) : R tab C 55 [] [.lp [1, 1, 0, 1, 0]] (S55_11010 out_o out_l t14_o t14_l t15' t16' out_b b14_b) =
  bif (ltI t16' t15') then
    bif ((leI (0 : Int) t16') && (ltI t16' (t14_l : Int))) then bif ((leI (0 : Int) (IntKind.u8.wrap ((((b14_b.getD (t14_o + t16'.toNat) .nil).cell 0).toInt).tdiv (16 : Int)))) && (ltI (IntKind.u8.wrap ((((b14_b.getD (t14_o + t16'.toNat) .nil).cell 0).toInt).tdiv (16 : Int))) ((⟨#[48, 49, 50, 51, 52, 53, 54, 55, 56, 57, 97, 98, 99, 100, 101, 102]⟩ : ByteArray).size : Int))) then bif ((leI (0 : Int) ((((b14_b.getD (t14_o + t16'.toNat) .nil).cell 0).toInt).tmod (16 : Int))) && (ltI ((((b14_b.getD (t14_o + t16'.toNat) .nil).cell 0).toInt).tmod (16 : Int)) ((⟨#[48, 49, 50, 51, 52, 53, 54, 55, 56, 57, 97, 98, 99, 100, 101, 102]⟩ : ByteArray).size : Int))) then bif (leN (out_l + 2) 2147483648) then L tab C 55 [] [.lp [1, 1, 0, 1, 0]] (S55_11010 0 (out_l + 2) t14_o t14_l t15' (IntKind.i64.wrap (t16' + (1 : Int))) (((out_b.drop out_o).take out_l) ++ ([.int .u8 (((⟨#[48, 49, 50, 51, 52, 53, 54, 55, 56, 57, 97, 98, 99, 100, 101, 102]⟩ : ByteArray).data.getD ((IntKind.u8.wrap ((((b14_b.getD (t14_o + t16'.toNat) .nil).cell 0).toInt).tdiv (16 : Int))).toNat) 0).toNat : Int), .int .u8 (((⟨#[48, 49, 50, 51, 52, 53, 54, 55, 56, 57, 97, 98, 99, 100, 101, 102]⟩ : ByteArray).data.getD (((((b14_b.getD (t14_o + t16'.toNat) .nil).cell 0).toInt).tmod (16 : Int)).toNat) 0).toNat : Int)] : List PV)) b14_b) else none else none else none else none
  else
    some ([.p (.str (bytesOf ((out_b.drop out_o).take out_l)))], []) := by kernel_rfl
theorem e56 (C : CallF) (s : ByteArray) (suffix : ByteArray) : acallI tab C 56 [.p (.str s), .p (.str suffix)] [] =
  (C 67 [.p (.str s), .p (.str suffix)] []).bind fun r1 =>
  bif (!(r1.1.headD .undef).pv.toBool) then
    some ([.p (.str s), .p (.bool false)], [])
  else
    bif ((leI (0 : Int) (IntKind.i64.wrap (((s.size : Nat) : Int) - ((suffix.size : Nat) : Int)))) && (leI (IntKind.i64.wrap (((s.size : Nat) : Int) - ((suffix.size : Nat) : Int))) (s.size : Int))) then some ([.p (.str (s.extract 0 ((IntKind.i64.wrap (((s.size : Nat) : Int) - ((suffix.size : Nat) : Int))).toNat))), .p (.bool true)], []) else none := by kernel_rfl
def S60_111010 (s' : ByteArray) (t12' : Int) (b2_b0 : Int) (b2_b1 : Int) (b2_b2 : Int) (parts_b0 : Int) (parts_b1 : Int) (parts_b2 : Int) : St := ⟨(.p (.str s')) :: .undef :: (.ptr 2 0 0) :: .undef :: (.ptr 4 0 0) :: .undef :: .undef :: .undef :: .undef :: .undef :: .undef :: .undef :: (.p (.int .i64 t12')) :: List.replicate 37 .undef, [(2, .box [.p (.int .u8 b2_b0), .p (.int .u8 b2_b1), .p (.int .u8 b2_b2)]), (4, .box [.p (.int .u8 parts_b0), .p (.int .u8 parts_b1), .p (.int .u8 parts_b2)])]⟩
theorem e60 (C : CallF) (s : ByteArray) : acallI tab C 60 [.p (.str s)] [] =
  bif (((s.size : Nat) : Int) != (7 : Int)) then
    some ([.p (.agg [.int .u8 0, .int .u8 0, .int .u8 0]), .p (.int .i64 6)], [])
  else
    L tab C 60 [] [.lp [1, 1, 1, 0, 1, 0]] (S60_111010 s 0 0 0 0 0 0 0) := by kernel_rfl
theorem e60_111010 (C : CallF) (s' : ByteArray) (t12' : Int) (b2_b0 : Int) (b2_b1 : Int) (b2_b2 : Int) (parts_b0 : Int) (parts_b1 : Int) (parts_b2 : Int) : R tab C 60 [] [.lp [1, 1, 1, 0, 1, 0]] (S60_111010 s' t12' b2_b0 b2_b1 b2_b2 parts_b0 parts_b1 parts_b2) =
  bif (ltI t12' (6 : Int)) then
    bif ((leI (0 : Int) (IntKind.i64.wrap (t12' + (1 : Int)))) && (ltI (IntKind.i64.wrap (t12' + (1 : Int))) (s'.size : Int))) then (C 72 [.p (.list false [.int .u8] [.int .u8 48, .int .u8 49, .int .u8 50, .int .u8 51, .int .u8 52, .int .u8 53, .int .u8 54, .int .u8 55, .int .u8 56, .int .u8 57, .int .u8 97, .int .u8 98, .int .u8 99, .int .u8 100, .int .u8 101, .int .u8 102]), .p (.int .u8 ((s'.data.getD ((IntKind.i64.wrap (t12' + (1 : Int))).toNat) 0).toNat : Int))] []).bind fun r1 =>
    bif (ltI ((r1.1.headD .undef).pv.toInt) (0 : Int)) then
      some ([.p (.agg [.int .u8 0, .int .u8 0, .int .u8 0]), .p (.int .i64 6)], [])
    else
      bif ((leI (0 : Int) (IntKind.i64.wrap (t12'.tdiv (2 : Int)))) && (ltI (IntKind.i64.wrap (t12'.tdiv (2 : Int))) (3 : Int))) then bif (eqI (IntKind.i64.wrap (t12'.tdiv (2 : Int))) 0) then
        bif ((leI (0 : Int) (IntKind.i64.wrap (t12'.tdiv (2 : Int)))) && (ltI (IntKind.i64.wrap (t12'.tdiv (2 : Int))) (3 : Int))) then bif (eqI (IntKind.i64.wrap (t12'.tdiv (2 : Int))) 0) then
          L tab C 60 [] [.lp [1, 1, 1, 0, 1, 0]] (S60_111010 s' (IntKind.i64.wrap (t12' + (1 : Int))) b2_b0 b2_b1 b2_b2 (IntKind.u8.wrap ((IntKind.u8.wrap (parts_b0 * (16 : Int))) + (IntKind.u8.wrap ((r1.1.headD .undef).pv.toInt)))) parts_b1 parts_b2)
        else
          bif (eqI (IntKind.i64.wrap (t12'.tdiv (2 : Int))) 1) then
            L tab C 60 [] [.lp [1, 1, 1, 0, 1, 0]] (S60_111010 s' (IntKind.i64.wrap (t12' + (1 : Int))) b2_b0 b2_b1 b2_b2 parts_b0 (IntKind.u8.wrap ((IntKind.u8.wrap (parts_b0 * (16 : Int))) + (IntKind.u8.wrap ((r1.1.headD .undef).pv.toInt)))) parts_b2)
          else
            bif (eqI (IntKind.i64.wrap (t12'.tdiv (2 : Int))) 2) then L tab C 60 [] [.lp [1, 1, 1, 0, 1, 0]] (S60_111010 s' (IntKind.i64.wrap (t12' + (1 : Int))) b2_b0 b2_b1 b2_b2 parts_b0 parts_b1 (IntKind.u8.wrap ((IntKind.u8.wrap (parts_b0 * (16 : Int))) + (IntKind.u8.wrap ((r1.1.headD .undef).pv.toInt))))) else none else none
      else
        bif (eqI (IntKind.i64.wrap (t12'.tdiv (2 : Int))) 1) then
          bif ((leI (0 : Int) (IntKind.i64.wrap (t12'.tdiv (2 : Int)))) && (ltI (IntKind.i64.wrap (t12'.tdiv (2 : Int))) (3 : Int))) then bif (eqI (IntKind.i64.wrap (t12'.tdiv (2 : Int))) 0) then
            L tab C 60 [] [.lp [1, 1, 1, 0, 1, 0]] (S60_111010 s' (IntKind.i64.wrap (t12' + (1 : Int))) b2_b0 b2_b1 b2_b2 (IntKind.u8.wrap ((IntKind.u8.wrap (parts_b1 * (16 : Int))) + (IntKind.u8.wrap ((r1.1.headD .undef).pv.toInt)))) parts_b1 parts_b2)
          else
            bif (eqI (IntKind.i64.wrap (t12'.tdiv (2 : Int))) 1) then
              L tab C 60 [] [.lp [1, 1, 1, 0, 1, 0]] (S60_111010 s' (IntKind.i64.wrap (t12' + (1 : Int))) b2_b0 b2_b1 b2_b2 parts_b0 (IntKind.u8.wrap ((IntKind.u8.wrap (parts_b1 * (16 : Int))) + (IntKind.u8.wrap ((r1.1.headD .undef).pv.toInt)))) parts_b2)
            else
              bif (eqI (IntKind.i64.wrap (t12'.tdiv (2 : Int))) 2) then L tab C 60 [] [.lp [1, 1, 1, 0, 1, 0]] (S60_111010 s' (IntKind.i64.wrap (t12' + (1 : Int))) b2_b0 b2_b1 b2_b2 parts_b0 parts_b1 (IntKind.u8.wrap ((IntKind.u8.wrap (parts_b1 * (16 : Int))) + (IntKind.u8.wrap ((r1.1.headD .undef).pv.toInt))))) else none else none
        else
          bif (eqI (IntKind.i64.wrap (t12'.tdiv (2 : Int))) 2) then bif ((leI (0 : Int) (IntKind.i64.wrap (t12'.tdiv (2 : Int)))) && (ltI (IntKind.i64.wrap (t12'.tdiv (2 : Int))) (3 : Int))) then bif (eqI (IntKind.i64.wrap (t12'.tdiv (2 : Int))) 0) then
            L tab C 60 [] [.lp [1, 1, 1, 0, 1, 0]] (S60_111010 s' (IntKind.i64.wrap (t12' + (1 : Int))) b2_b0 b2_b1 b2_b2 (IntKind.u8.wrap ((IntKind.u8.wrap (parts_b2 * (16 : Int))) + (IntKind.u8.wrap ((r1.1.headD .undef).pv.toInt)))) parts_b1 parts_b2)
          else
            bif (eqI (IntKind.i64.wrap (t12'.tdiv (2 : Int))) 1) then
              L tab C 60 [] [.lp [1, 1, 1, 0, 1, 0]] (S60_111010 s' (IntKind.i64.wrap (t12' + (1 : Int))) b2_b0 b2_b1 b2_b2 parts_b0 (IntKind.u8.wrap ((IntKind.u8.wrap (parts_b2 * (16 : Int))) + (IntKind.u8.wrap ((r1.1.headD .undef).pv.toInt)))) parts_b2)
            else
              bif (eqI (IntKind.i64.wrap (t12'.tdiv (2 : Int))) 2) then L tab C 60 [] [.lp [1, 1, 1, 0, 1, 0]] (S60_111010 s' (IntKind.i64.wrap (t12' + (1 : Int))) b2_b0 b2_b1 b2_b2 parts_b0 parts_b1 (IntKind.u8.wrap ((IntKind.u8.wrap (parts_b2 * (16 : Int))) + (IntKind.u8.wrap ((r1.1.headD .undef).pv.toInt))))) else none else none else none else none else none
  else
    (C 55 [.p (.agg [.int .u8 parts_b0, .int .u8 parts_b1, .int .u8 parts_b2])] []).bind fun r2 =>
    bif (!(((r2.1.headD .undef).pv.toStr).toList == s'.toList)) then
      some ([.p (.agg [.int .u8 0, .int .u8 0, .int .u8 0]), .p (.int .i64 6)], [])
    else
      some ([.p (.agg [.int .u8 parts_b0, .int .u8 parts_b1, .int .u8 parts_b2]), .p (.int .i64 0)], []) := by kernel_rfl
theorem e62 (C : CallF) (n_ : Int) : acallI tab C 62 [.p (.nil), .p (.int .i64 n_)] [] =
  bif (ltI n_ (0 : Int)) then
    none
  else
    bif (gtI (IntKind.i64.wrap (n_ - (0 : Int))) (0 : Int)) then
      bif ((leI (0 : Int) (IntKind.i64.wrap (n_ - (0 : Int)))) && (leI (IntKind.i64.wrap (n_ - (0 : Int))) (2147483648 : Int))) then bif (leN ((IntKind.i64.wrap (n_ - (0 : Int))).toNat) 2147483648) then bif ((leI (0 : Int) (((IntKind.i64.wrap (n_ - (0 : Int))).toNat : Nat) : Int)) && (leI (((IntKind.i64.wrap (n_ - (0 : Int))).toNat : Nat) : Int) (((IntKind.i64.wrap (n_ - (0 : Int))).toNat : Nat) : Int))) then some ([.fresh true [.int .i64, .int .i64, .int .i64, .int .u8, .int .u8, .int .u8] (((List.replicate ((IntKind.i64.wrap (n_ - (0 : Int))).toNat) (PV.agg [.int .i64 0, .int .i64 0, .int .i64 0, .int .u8 0, .int .u8 0, .int .u8 0])).drop 0).take 0)], []) else none else none else none
    else
      some ([.fresh true [.int .i64, .int .i64, .int .i64, .int .u8, .int .u8, .int .u8] []], []) := by kernel_rfl
def S63_10 (t1_r0 : List PV) (i' : Int) (b100000_b : List PV) : St := ⟨(.yld) :: (.p (.ref [.list true [.int .i64, .int .i64, .int .i64, .int .u8, .int .u8, .int .u8] t1_r0])) :: .undef :: (.p (.int .i64 i')) :: List.replicate 15 .undef, [(100000, .log true b100000_b)]⟩
theorem e63 (C : CallF) (c0 : List PV) : acallI tab C 63 [.yld, .p (.ref [.list true [.int .i64, .int .i64, .int .i64, .int .u8, .int .u8, .int .u8] c0])] [.log true []] =
  L tab C 63 [.log true []] [.lp [1, 0]] (S63_10 c0 (IntKind.i64.wrap (((c0.length : Nat) : Int) - (1 : Int))) []) := by kernel_rfl
theorem e63_10 (C : CallF) (t1_r0 : List PV) (i' : Int) (b100000_b : List PV) : R tab C 63 [.log true []] [.lp [1, 0]] (S63_10 t1_r0 i' b100000_b) =
  bif (geI i' (0 : Int)) then
    bif ((leI (0 : Int) i') && (ltI i' ((t1_r0.length : Nat) : Int))) then fork (some ([], [.log false (b100000_b ++ ([.agg [.int .i64 i', .agg [.int .i64 (((t1_r0.getD i'.toNat .nil).cell 0).toInt), .int .i64 (((t1_r0.getD i'.toNat .nil).cell 1).toInt), .int .i64 (((t1_r0.getD i'.toNat .nil).cell 2).toInt), .int .u8 (((t1_r0.getD i'.toNat .nil).cell 3).toInt), .int .u8 (((t1_r0.getD i'.toNat .nil).cell 4).toInt), .int .u8 (((t1_r0.getD i'.toNat .nil).cell 5).toInt)]]] : List PV))])) <|
    L tab C 63 [.log true []] [.lp [1, 0]] (S63_10 t1_r0 (IntKind.i64.wrap (i' - (1 : Int))) (b100000_b ++ ([.agg [.int .i64 i', .agg [.int .i64 (((t1_r0.getD i'.toNat .nil).cell 0).toInt), .int .i64 (((t1_r0.getD i'.toNat .nil).cell 1).toInt), .int .i64 (((t1_r0.getD i'.toNat .nil).cell 2).toInt), .int .u8 (((t1_r0.getD i'.toNat .nil).cell 3).toInt), .int .u8 (((t1_r0.getD i'.toNat .nil).cell 4).toInt), .int .u8 (((t1_r0.getD i'.toNat .nil).cell 5).toInt)]]] : List PV))) else none
  else
    some ([], [.log true b100000_b]) := by kernel_rfl
theorem e64 (C : CallF) (x : Int) (y : Int) : acallI tab C 64 [.p (.int .u64 x), .p (.int .u64 y)] [] =
  (C 74 [.p (.int .u64 x), .p (.int .u64 y)] []).bind fun r1 =>
  some ([.p (.int .u64 ((r1.1.headD .undef).pv.toInt)), .p (.int .u64 ((r1.1.tail.headD .undef).pv.toInt))], []) := by kernel_rfl
theorem e67 (C : CallF) (s : ByteArray) (suffix : ByteArray) : acallI tab C 67 [.p (.str s), .p (.str suffix)] [] =
  bif (geI ((s.size : Nat) : Int) ((suffix.size : Nat) : Int)) then
    bif ((leI (0 : Int) (IntKind.i64.wrap (((s.size : Nat) : Int) - ((suffix.size : Nat) : Int)))) && ((leI (IntKind.i64.wrap (((s.size : Nat) : Int) - ((suffix.size : Nat) : Int))) (s.size : Int)) && (leI (s.size : Int) (s.size : Int)))) then some ([.p (.bool ((s.extract ((IntKind.i64.wrap (((s.size : Nat) : Int) - ((suffix.size : Nat) : Int))).toNat) ((s.size : Int).toNat)).toList == suffix.toList))], []) else none
  else
    some ([.p (.bool false)], []) := by kernel_rfl
def S72_1010 (s' : List PV) (v' : Int) (t7' : Int) (t8' : Int) : St := ⟨(.p (.list false [.int .u8] s')) :: (.p (.int .u8 v')) :: .undef :: .undef :: .undef :: .undef :: .undef :: (.p (.int .i64 t7')) :: (.p (.int .i64 t8')) :: List.replicate 10 .undef, []⟩
theorem e72 (C : CallF) (s : List PV) (v : Int) : acallI tab C 72 [.p (.list false [.int .u8] s), .p (.int .u8 v)] [] =
  L tab C 72 [] [.lp [1, 0, 1, 0]] (S72_1010 s v ((s.length : Nat) : Int) 0) := by kernel_rfl
theorem e72_1010 (C : CallF) (s' : List PV) (v' : Int) (t7' : Int) (t8' : Int) : R tab C 72 [] [.lp [1, 0, 1, 0]] (S72_1010 s' v' t7' t8') =
  bif (ltI t8' t7') then
    bif ((leI (0 : Int) t8') && (ltI t8' ((s'.length : Nat) : Int))) then bif (v' == ((s'.getD t8'.toNat .nil).cell 0).toInt) then
      some ([.p (.int .i64 t8')], [])
    else
      L tab C 72 [] [.lp [1, 0, 1, 0]] (S72_1010 s' v' t7' (IntKind.i64.wrap (t8' + (1 : Int)))) else none
  else
    some ([.p (.int .i64 (-1))], []) := by kernel_rfl
theorem e74 (C : CallF) (x : Int) (y : Int) : acallI tab C 74 [.p (.int .u64 x), .p (.int .u64 y)] [] =
  some ([.p (.int .u64 (IntKind.u64.wrap ((IntKind.u64.wrap ((IntKind.u64.wrap ((x.fdiv (2 ^ 32)) * (y.fdiv (2 ^ 32)))) + ((IntKind.u64.wrap ((IntKind.u64.wrap ((x.fdiv (2 ^ 32)) * (IntKind.u64.wrap (((BitVec.ofInt IntKind.u64.bits y) &&& (BitVec.ofInt IntKind.u64.bits (4294967295 : Int))).toNat : Nat)))) + ((IntKind.u64.wrap ((IntKind.u64.wrap (((BitVec.ofInt IntKind.u64.bits x) &&& (BitVec.ofInt IntKind.u64.bits (4294967295 : Int))).toNat : Nat)) * (IntKind.u64.wrap (((BitVec.ofInt IntKind.u64.bits y) &&& (BitVec.ofInt IntKind.u64.bits (4294967295 : Int))).toNat : Nat)))).fdiv (2 ^ 32)))).fdiv (2 ^ 32)))) + ((IntKind.u64.wrap ((IntKind.u64.wrap (((BitVec.ofInt IntKind.u64.bits (IntKind.u64.wrap ((IntKind.u64.wrap ((x.fdiv (2 ^ 32)) * (IntKind.u64.wrap (((BitVec.ofInt IntKind.u64.bits y) &&& (BitVec.ofInt IntKind.u64.bits (4294967295 : Int))).toNat : Nat)))) + ((IntKind.u64.wrap ((IntKind.u64.wrap (((BitVec.ofInt IntKind.u64.bits x) &&& (BitVec.ofInt IntKind.u64.bits (4294967295 : Int))).toNat : Nat)) * (IntKind.u64.wrap (((BitVec.ofInt IntKind.u64.bits y) &&& (BitVec.ofInt IntKind.u64.bits (4294967295 : Int))).toNat : Nat)))).fdiv (2 ^ 32))))) &&& (BitVec.ofInt IntKind.u64.bits (4294967295 : Int))).toNat : Nat)) + (IntKind.u64.wrap ((IntKind.u64.wrap (((BitVec.ofInt IntKind.u64.bits x) &&& (BitVec.ofInt IntKind.u64.bits (4294967295 : Int))).toNat : Nat)) * (y.fdiv (2 ^ 32)))))).fdiv (2 ^ 32))))), .p (.int .u64 (IntKind.u64.wrap (x * y)))], []) := by kernel_rfl
end Go.Skm.Pio
