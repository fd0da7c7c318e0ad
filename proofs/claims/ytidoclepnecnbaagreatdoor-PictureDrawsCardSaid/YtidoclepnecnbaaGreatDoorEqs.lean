/-
  What the machine does in each function of this program, and in each round of each loop; no condition.
-/
import Derived.Test.YtidoclepnecnbaaGreatDoorSkmE
import Derived.Test.YtidoclepnecnbaaGreatDoorTab
import Derived.KernelRfl
set_option maxRecDepth 100000
namespace Go.Skm.Drw
open Go Go.Skm
def S3_11111010 (points' : List PV) (colors' : List PV) (own_o : Nat) (own_l : Nat) (shades_o : Nat) (shades_l : Nat) (e_' : Int) (f' : Int) (i' : Int) (own_b : List PV) (shades_b : List PV) (b37_b : List PV) (a_b0 : Int) (a_b1 : Int) (a_b2 : Int) (a_b3 : Int) (a_b4 : Int) (a_b5_o : Nat) (a_b5_l : Nat) (b46_b : List PV) (b_b0 : Int) (b_b1 : Int) (b_b2 : Int) (b_b3 : Int) (b_b4 : Int) (b_b5_o : Nat) (b_b5_l : Nat) : St := ⟨.undef :: .undef :: (.p (.list true [.int .i64, .int .i64, .int .i64] points')) :: (.p (.list true [.int .u8, .int .u8, .int .u8] colors')) :: .undef :: .undef :: .undef :: .undef :: .undef :: .undef :: .undef :: (.slice 11 3 own_o own_l) :: (.slice 12 3 shades_o shades_l) :: (.ptr 13 0 0) :: (.p (.int .i64 e_')) :: (.ptr 15 0 0) :: (.p (.int .i64 f')) :: (.p (.int .i64 i')) :: List.replicate 62 .undef, [(11, .arr true [.int .i64, .int .i64, .int .i64] own_b), (12, .arr true [.int .u8, .int .u8, .int .u8] shades_b), (37, .arr true [.int .i64, .int .i64, .int .i64, .int .u8, .int .u8, .int .u8] b37_b), (13, .box [.p (.int .i64 a_b0), .p (.int .i64 a_b1), .p (.int .u8 a_b2), .p (.int .u8 a_b3), .p (.int .u8 a_b4), .slice 37 6 a_b5_o a_b5_l]), (46, .arr true [.int .i64, .int .i64, .int .i64, .int .u8, .int .u8, .int .u8] b46_b), (15, .box [.p (.int .i64 b_b0), .p (.int .i64 b_b1), .p (.int .u8 b_b2), .p (.int .u8 b_b3), .p (.int .u8 b_b4), .slice 46 6 b_b5_o b_b5_l])]⟩
theorem e3 (C : CallF) (c_0 : Int) (c_1 : Int) (c_2 : Int) (c_3 : Int) (c_4 : Int) (c_5 : Int) (c_6 : Int) (c_7 : Int) (c_8 : Int) (c_9 : Int) (c_10 : Int) (c_11 : Int) (c_12 : Int) (c_13 : Int) (c_14 : Int) (c_15 : Int) (back_0 : Int) (back_1 : Int) (back_2 : Int) (points : List PV) (colors : List PV) (radius : Int) : acallI tab C 3 [.p (.agg [.int .i64 c_0, .int .i64 c_1, .int .i64 c_2, .int .i64 c_3, .int .i64 c_4, .int .i64 c_5, .int .i64 c_6, .int .i64 c_7, .int .i64 c_8, .int .i64 c_9, .int .i64 c_10, .int .i64 c_11, .int .i64 c_12, .int .i64 c_13, .int .i64 c_14, .int .i64 c_15]), .p (.agg [.int .u8 back_0, .int .u8 back_1, .int .u8 back_2]), .p (.list true [.int .i64, .int .i64, .int .i64] points), .p (.list true [.int .u8, .int .u8, .int .u8] colors), .p (.int .i64 radius)] [] =
  bif (gtI ((points.length : Nat) : Int) (40 : Int)) then
    (C 4 [] []).bind fun r1 =>
    some ([.p (.bool ((r1.1.headD .undef).pv.toBool))], [])
  else
    bif (gtI ((colors.length : Nat) : Int) (40 : Int)) then
      (C 4 [] []).bind fun r2 =>
      some ([.p (.bool ((r2.1.headD .undef).pv.toBool))], [])
    else
      bif (leN points.length 2147483648) then bif (leN colors.length 2147483648) then (C 5 [.p (.agg [.int .i64 c_0, .int .i64 c_1, .int .i64 c_2, .int .i64 c_3, .int .i64 c_4, .int .i64 c_5, .int .i64 c_6, .int .i64 c_7, .int .i64 c_8, .int .i64 c_9, .int .i64 c_10, .int .i64 c_11, .int .i64 c_12, .int .i64 c_13, .int .i64 c_14, .int .i64 c_15]), .p (.agg [.int .u8 back_0, .int .u8 back_1, .int .u8 back_2]), .p (.list true [.int .i64, .int .i64, .int .i64] ((points.drop 0).take points.length)), .p (.list true [.int .u8, .int .u8, .int .u8] ((colors.drop 0).take colors.length)), .p (.int .i64 radius)] []).bind fun r3 =>
      (C 6 [.p (.agg [.int .i64 c_0, .int .i64 c_1, .int .i64 c_2, .int .i64 c_3, .int .i64 c_4, .int .i64 c_5, .int .i64 c_6, .int .i64 c_7, .int .i64 c_8, .int .i64 c_9, .int .i64 c_10, .int .i64 c_11, .int .i64 c_12, .int .i64 c_13, .int .i64 c_14, .int .i64 c_15]), .p (.agg [.int .u8 back_0, .int .u8 back_1, .int .u8 back_2]), .p (.list true [.int .i64, .int .i64, .int .i64] points), .p (.list true [.int .u8, .int .u8, .int .u8] colors), .p (.int .i64 radius)] []).bind fun r4 =>
      L tab C 3 [] [.lp [1, 1, 1, 1, 1, 0, 1, 0]] (S3_11111010 points colors 0 points.length 0 colors.length ((r3.1.tail.headD .undef).pv.toInt) ((r4.1.tail.headD .undef).pv.toInt) 0 points colors ((r3.1.headD .undef).aggList) (((r3.1.headD .undef).aggPv.cell 0).toInt) (((r3.1.headD .undef).aggPv.cell 1).toInt) (((r3.1.headD .undef).aggPv.cell 2).toInt) (((r3.1.headD .undef).aggPv.cell 3).toInt) (((r3.1.headD .undef).aggPv.cell 4).toInt) 0 ((r3.1.headD .undef).aggList.length) ((r4.1.headD .undef).aggList) (((r4.1.headD .undef).aggPv.cell 0).toInt) (((r4.1.headD .undef).aggPv.cell 1).toInt) (((r4.1.headD .undef).aggPv.cell 2).toInt) (((r4.1.headD .undef).aggPv.cell 3).toInt) (((r4.1.headD .undef).aggPv.cell 4).toInt) 0 ((r4.1.headD .undef).aggList.length)) else none else none := by kernel_rfl
theorem e3_11111010 (C : CallF) (points' : List PV) (colors' : List PV) (own_o : Nat) (own_l : Nat) (shades_o : Nat) (shades_l : Nat) (e_' : Int) (f' : Int) (i' : Int) (own_b : List PV) (shades_b : List PV) (b37_b : List PV) (a_b0 : Int) (a_b1 : Int) (a_b2 : Int) (a_b3 : Int) (a_b4 : Int) (a_b5_o : Nat) (a_b5_l : Nat) (b46_b : List PV) (b_b0 : Int) (b_b1 : Int) (b_b2 : Int) (b_b3 : Int) (b_b4 : Int) (b_b5_o : Nat) (b_b5_l : Nat) : R tab C 3 [] [.lp [1, 1, 1, 1, 1, 0, 1, 0]] (S3_11111010 points' colors' own_o own_l shades_o shades_l e_' f' i' own_b shades_b b37_b a_b0 a_b1 a_b2 a_b3 a_b4 a_b5_o a_b5_l b46_b b_b0 b_b1 b_b2 b_b3 b_b4 b_b5_o b_b5_l) =
  bif (ltI i' ((points'.length : Nat) : Int)) then
    bif ((leI (0 : Int) i') && (ltI i' (own_l : Int))) then bif ((leI (0 : Int) i') && (ltI i' ((points'.length : Nat) : Int))) then bif (!((((own_b.getD (own_o + i'.toNat) .nil).cell 0).toInt == ((points'.getD i'.toNat .nil).cell 0).toInt) && ((((own_b.getD (own_o + i'.toNat) .nil).cell 1).toInt == ((points'.getD i'.toNat .nil).cell 1).toInt) && ((((own_b.getD (own_o + i'.toNat) .nil).cell 2).toInt == ((points'.getD i'.toNat .nil).cell 2).toInt) && true)))) then
      some ([.p (.bool false)], [])
    else
      L tab C 3 [] [.lp [1, 1, 1, 1, 1, 0, 1, 0]] (S3_11111010 points' colors' own_o own_l shades_o shades_l e_' f' (IntKind.i64.wrap (i' + (1 : Int))) own_b shades_b b37_b a_b0 a_b1 a_b2 a_b3 a_b4 a_b5_o a_b5_l b46_b b_b0 b_b1 b_b2 b_b3 b_b4 b_b5_o b_b5_l) else none else none
  else
    (C 7 [.p (.agg [.int .i64 a_b0, .int .i64 a_b1, .int .u8 a_b2, .int .u8 a_b3, .int .u8 a_b4, .list true [.int .i64, .int .i64, .int .i64, .int .u8, .int .u8, .int .u8] ((b37_b.drop a_b5_o).take a_b5_l)]), .p (.agg [.int .i64 b_b0, .int .i64 b_b1, .int .u8 b_b2, .int .u8 b_b3, .int .u8 b_b4, .list true [.int .i64, .int .i64, .int .i64, .int .u8, .int .u8, .int .u8] ((b46_b.drop b_b5_o).take b_b5_l)])] []).bind fun r1 =>
    bif (r1.1.headD .undef).pv.toBool then
      bif (e_' == f') then
        (C 8 [.p (.list true [.int .u8, .int .u8, .int .u8] ((shades_b.drop shades_o).take shades_l)), .p (.list true [.int .u8, .int .u8, .int .u8] colors')] []).bind fun r2 =>
        bif (r2.1.headD .undef).pv.toBool then
          (C 4 [] []).bind fun r3 =>
          some ([.p (.bool ((r3.1.headD .undef).pv.toBool))], [])
        else
          some ([.p (.bool false)], [])
      else
        some ([.p (.bool false)], [])
    else
      some ([.p (.bool false)], []) := by kernel_rfl
theorem e4 (C : CallF)  : acallI tab C 4 [] [] =
  (C 9 [] []).bind fun r1 =>
  (C 10 [.p (.agg [.int .i64 (((r1.1.headD .undef).pv.cell 0).toInt), .int .i64 (((r1.1.headD .undef).pv.cell 1).toInt), .int .u8 (((r1.1.headD .undef).pv.cell 2).toInt), .int .u8 (((r1.1.headD .undef).pv.cell 3).toInt), .int .u8 (((r1.1.headD .undef).pv.cell 4).toInt), .list true [.int .i64, .int .i64, .int .i64, .int .u8, .int .u8, .int .u8] (((r1.1.headD .undef).pv.cell 5).toList)])] []).bind fun r2 =>
  (C 11 [.p (.agg [.int .i64 (((r1.1.headD .undef).pv.cell 0).toInt), .int .i64 (((r1.1.headD .undef).pv.cell 1).toInt), .int .u8 (((r1.1.headD .undef).pv.cell 2).toInt), .int .u8 (((r1.1.headD .undef).pv.cell 3).toInt), .int .u8 (((r1.1.headD .undef).pv.cell 4).toInt), .list true [.int .i64, .int .i64, .int .i64, .int .u8, .int .u8, .int .u8] (((r1.1.headD .undef).pv.cell 5).toList)]), .p (.int .i64 20), .p (.int .i64 0)] []).bind fun r3 =>
  bif ((r2.1.tail.headD .undef).pv.toInt != (0 : Int)) then
    some ([.p (.bool false)], [])
  else
    bif ((r3.1.tail.headD .undef).pv.toInt != (3 : Int)) then
      some ([.p (.bool false)], [])
    else
      bif (!(((r2.1.headD .undef).pv.toStr).toList == (⟨#[112, 105, 99, 116, 117, 114, 101, 32, 50, 48, 32, 49, 48, 32, 35, 48, 48, 48, 48, 48, 48, 10, 100, 111, 116, 32, 53, 32, 53, 32, 50, 32, 35, 102, 102, 48, 48, 48, 48, 10, 100, 111, 116, 32, 55, 32, 53, 32, 49, 32, 35, 48, 48, 48, 48, 102, 102, 10]⟩ : ByteArray).toList)) then
        some ([.p (.bool false)], [])
      else
        (C 12 [.p (.agg [.int .i64 (((r1.1.headD .undef).pv.cell 0).toInt), .int .i64 (((r1.1.headD .undef).pv.cell 1).toInt), .int .u8 (((r1.1.headD .undef).pv.cell 2).toInt), .int .u8 (((r1.1.headD .undef).pv.cell 3).toInt), .int .u8 (((r1.1.headD .undef).pv.cell 4).toInt), .list true [.int .i64, .int .i64, .int .i64, .int .u8, .int .u8, .int .u8] (((r1.1.headD .undef).pv.cell 5).toList)]), .p (.int .i64 5), .p (.int .i64 7), .p (.agg [.int .u8 255, .int .u8 0, .int .u8 0])] []).bind fun r4 =>
        bif (!(r4.1.headD .undef).pv.toBool) then
          some ([.p (.bool false)], [])
        else
          (C 12 [.p (.agg [.int .i64 (((r1.1.headD .undef).pv.cell 0).toInt), .int .i64 (((r1.1.headD .undef).pv.cell 1).toInt), .int .u8 (((r1.1.headD .undef).pv.cell 2).toInt), .int .u8 (((r1.1.headD .undef).pv.cell 3).toInt), .int .u8 (((r1.1.headD .undef).pv.cell 4).toInt), .list true [.int .i64, .int .i64, .int .i64, .int .u8, .int .u8, .int .u8] (((r1.1.headD .undef).pv.cell 5).toList)]), .p (.int .i64 6), .p (.int .i64 5), .p (.agg [.int .u8 0, .int .u8 0, .int .u8 255])] []).bind fun r5 =>
          bif (!(r5.1.headD .undef).pv.toBool) then
            some ([.p (.bool false)], [])
          else
            (C 12 [.p (.agg [.int .i64 (((r1.1.headD .undef).pv.cell 0).toInt), .int .i64 (((r1.1.headD .undef).pv.cell 1).toInt), .int .u8 (((r1.1.headD .undef).pv.cell 2).toInt), .int .u8 (((r1.1.headD .undef).pv.cell 3).toInt), .int .u8 (((r1.1.headD .undef).pv.cell 4).toInt), .list true [.int .i64, .int .i64, .int .i64, .int .u8, .int .u8, .int .u8] (((r1.1.headD .undef).pv.cell 5).toList)]), .p (.int .i64 7), .p (.int .i64 5), .p (.agg [.int .u8 0, .int .u8 0, .int .u8 255])] []).bind fun r6 =>
            bif (!(r6.1.headD .undef).pv.toBool) then
              some ([.p (.bool false)], [])
            else
              (C 12 [.p (.agg [.int .i64 (((r1.1.headD .undef).pv.cell 0).toInt), .int .i64 (((r1.1.headD .undef).pv.cell 1).toInt), .int .u8 (((r1.1.headD .undef).pv.cell 2).toInt), .int .u8 (((r1.1.headD .undef).pv.cell 3).toInt), .int .u8 (((r1.1.headD .undef).pv.cell 4).toInt), .list true [.int .i64, .int .i64, .int .i64, .int .u8, .int .u8, .int .u8] (((r1.1.headD .undef).pv.cell 5).toList)]), .p (.int .i64 7), .p (.int .i64 7), .p (.agg [.int .u8 0, .int .u8 0, .int .u8 0])] []).bind fun r7 =>
              bif (!(r7.1.headD .undef).pv.toBool) then
                some ([.p (.bool false)], [])
              else
                (C 13 [.p (.agg [.int .i64 (((r1.1.headD .undef).pv.cell 0).toInt), .int .i64 (((r1.1.headD .undef).pv.cell 1).toInt), .int .u8 (((r1.1.headD .undef).pv.cell 2).toInt), .int .u8 (((r1.1.headD .undef).pv.cell 3).toInt), .int .u8 (((r1.1.headD .undef).pv.cell 4).toInt), .list true [.int .i64, .int .i64, .int .i64, .int .u8, .int .u8, .int .u8] (((r1.1.headD .undef).pv.cell 5).toList)]), .p (.int .i64 7), .p (.int .i64 5), .p (.int .i64 3), .p (.int .i64 3)] []).bind fun r8 =>
                (C 13 [.p (.agg [.int .i64 (((r1.1.headD .undef).pv.cell 0).toInt), .int .i64 (((r1.1.headD .undef).pv.cell 1).toInt), .int .u8 (((r1.1.headD .undef).pv.cell 2).toInt), .int .u8 (((r1.1.headD .undef).pv.cell 3).toInt), .int .u8 (((r1.1.headD .undef).pv.cell 4).toInt), .list true [.int .i64, .int .i64, .int .i64, .int .u8, .int .u8, .int .u8] (((r1.1.headD .undef).pv.cell 5).toList)]), .p (.int .i64 9), .p (.int .i64 0), .p (.int .i64 11), .p (.int .i64 10)] []).bind fun r9 =>
                (C 13 [.p (.agg [.int .i64 (((r1.1.headD .undef).pv.cell 0).toInt), .int .i64 (((r1.1.headD .undef).pv.cell 1).toInt), .int .u8 (((r1.1.headD .undef).pv.cell 2).toInt), .int .u8 (((r1.1.headD .undef).pv.cell 3).toInt), .int .u8 (((r1.1.headD .undef).pv.cell 4).toInt), .list true [.int .i64, .int .i64, .int .i64, .int .u8, .int .u8, .int .u8] (((r1.1.headD .undef).pv.cell 5).toList)]), .p (.int .i64 9), .p (.int .i64 0), .p (.int .i64 12), .p (.int .i64 10)] []).bind fun r10 =>
                bif ((r8.1.tail.headD .undef).pv.toInt != (0 : Int)) then
                  some ([.p (.bool false)], [])
                else
                  bif ((r9.1.tail.headD .undef).pv.toInt != (0 : Int)) then
                    some ([.p (.bool false)], [])
                  else
                    bif ((r10.1.tail.headD .undef).pv.toInt != (3 : Int)) then
                      some ([.p (.bool false)], [])
                    else
                      (C 7 [.p (.agg [.int .i64 (((r8.1.headD .undef).pv.cell 0).toInt), .int .i64 (((r8.1.headD .undef).pv.cell 1).toInt), .int .u8 (((r8.1.headD .undef).pv.cell 2).toInt), .int .u8 (((r8.1.headD .undef).pv.cell 3).toInt), .int .u8 (((r8.1.headD .undef).pv.cell 4).toInt), .list true [.int .i64, .int .i64, .int .i64, .int .u8, .int .u8, .int .u8] (((r8.1.headD .undef).pv.cell 5).toList)]), .p (.agg [.int .i64 3, .int .i64 3, .int .u8 0, .int .u8 0, .int .u8 0, .list true [.int .i64, .int .i64, .int .i64, .int .u8, .int .u8, .int .u8] [.agg [.int .i64 (-2), .int .i64 0, .int .i64 2, .int .u8 255, .int .u8 0, .int .u8 0], .agg [.int .i64 0, .int .i64 0, .int .i64 1, .int .u8 0, .int .u8 0, .int .u8 255]]])] []).bind fun r11 =>
                      bif (!(r11.1.headD .undef).pv.toBool) then
                        some ([.p (.bool false)], [])
                      else
                        (C 7 [.p (.agg [.int .i64 (((r9.1.headD .undef).pv.cell 0).toInt), .int .i64 (((r9.1.headD .undef).pv.cell 1).toInt), .int .u8 (((r9.1.headD .undef).pv.cell 2).toInt), .int .u8 (((r9.1.headD .undef).pv.cell 3).toInt), .int .u8 (((r9.1.headD .undef).pv.cell 4).toInt), .list true [.int .i64, .int .i64, .int .i64, .int .u8, .int .u8, .int .u8] (((r9.1.headD .undef).pv.cell 5).toList)]), .p (.agg [.int .i64 11, .int .i64 10, .int .u8 0, .int .u8 0, .int .u8 0, .nil])] []).bind fun r12 =>
                        bif (!(r12.1.headD .undef).pv.toBool) then
                          some ([.p (.bool false)], [])
                        else
                          (C 14 [.p (.agg [.int .i64 (((r1.1.headD .undef).pv.cell 0).toInt), .int .i64 (((r1.1.headD .undef).pv.cell 1).toInt), .int .u8 (((r1.1.headD .undef).pv.cell 2).toInt), .int .u8 (((r1.1.headD .undef).pv.cell 3).toInt), .int .u8 (((r1.1.headD .undef).pv.cell 4).toInt), .list true [.int .i64, .int .i64, .int .i64, .int .u8, .int .u8, .int .u8] (((r1.1.headD .undef).pv.cell 5).toList)]), .p (.agg [.int .i64 20, .int .i64 10, .int .u8 0, .int .u8 0, .int .u8 0, .list true [.int .i64, .int .i64, .int .i64, .int .u8, .int .u8, .int .u8] [.agg [.int .i64 5, .int .i64 5, .int .i64 1, .int .u8 0, .int .u8 255, .int .u8 0]]])] []).bind fun r13 =>
                          (C 15 [.p (.str ⟨#[112, 105, 99, 116, 117, 114, 101, 32, 50, 48, 32, 49, 48, 32, 35, 48, 48, 48, 48, 48, 48]⟩)] []).bind fun r14 =>
                          bif ((r13.1.tail.headD .undef).pv.toInt == (0 : Int)) then
                            bif ((r14.1.tail.headD .undef).pv.toInt == (6 : Int)) then
                              (C 12 [.p (.agg [.int .i64 (((r13.1.headD .undef).aggPv.cell 0).toInt), .int .i64 (((r13.1.headD .undef).aggPv.cell 1).toInt), .int .u8 (((r13.1.headD .undef).aggPv.cell 2).toInt), .int .u8 (((r13.1.headD .undef).aggPv.cell 3).toInt), .int .u8 (((r13.1.headD .undef).aggPv.cell 4).toInt), .list true [.int .i64, .int .i64, .int .i64, .int .u8, .int .u8, .int .u8] ((((r13.1.headD .undef).aggList).drop 0).take ((r13.1.headD .undef).aggList.length))]), .p (.int .i64 5), .p (.int .i64 5), .p (.agg [.int .u8 0, .int .u8 255, .int .u8 0])] []).bind fun r15 =>
                              bif (r15.1.headD .undef).pv.toBool then
                                (C 12 [.p (.agg [.int .i64 (((r13.1.headD .undef).aggPv.cell 0).toInt), .int .i64 (((r13.1.headD .undef).aggPv.cell 1).toInt), .int .u8 (((r13.1.headD .undef).aggPv.cell 2).toInt), .int .u8 (((r13.1.headD .undef).aggPv.cell 3).toInt), .int .u8 (((r13.1.headD .undef).aggPv.cell 4).toInt), .list true [.int .i64, .int .i64, .int .i64, .int .u8, .int .u8, .int .u8] ((((r13.1.headD .undef).aggList).drop 0).take ((r13.1.headD .undef).aggList.length))]), .p (.int .i64 5), .p (.int .i64 7), .p (.agg [.int .u8 255, .int .u8 0, .int .u8 0])] []).bind fun r16 =>
                                some ([.p (.bool ((r16.1.headD .undef).pv.toBool))], [])
                              else
                                some ([.p (.bool false)], [])
                            else
                              some ([.p (.bool false)], [])
                          else
                            some ([.p (.bool false)], []) := by kernel_rfl
def S5_1111010 (colors' : List PV) (t40_o : Nat) (t40_l : Nat) (t41' : Int) (t42' : Int) (b10_b0 : Int) (b10_b1 : Int) (b10_b2 : Int) (b10_b3 : Int) (b10_b4 : Int) (l_b : List PV) (p_b0 : Int) (p_b1 : Int) (p_b2 : Int) (p_b3 : Int) (p_b4 : Int) : St := ⟨.undef :: .undef :: .undef :: (.p (.list true [.int .u8, .int .u8, .int .u8] colors')) :: .undef :: .undef :: .undef :: .undef :: .undef :: .undef :: (.ptr 10 0 0) :: .undef :: .undef :: .undef :: (.ptr 14 0 0) :: .undef :: .undef :: .undef :: .undef :: .undef :: .undef :: .undef :: .undef :: .undef :: .undef :: .undef :: .undef :: .undef :: .undef :: .undef :: .undef :: .undef :: .undef :: .undef :: .undef :: .undef :: .undef :: .undef :: .undef :: .undef :: (.slice 12 5 t40_o t40_l) :: (.p (.int .i64 t41')) :: (.p (.int .i64 t42')) :: List.replicate 23 .undef, [(10, .box [.p (.int .i64 b10_b0), .p (.int .i64 b10_b1), .p (.int .u8 b10_b2), .p (.int .u8 b10_b3), .p (.int .u8 b10_b4), .p (.nil)]), (12, .arr true [.int .i64, .int .i64, .int .i64, .int .i64, .int .i64] l_b), (14, .box [.p (.int .i64 p_b0), .p (.int .i64 p_b1), .p (.int .u8 p_b2), .p (.int .u8 p_b3), .p (.int .u8 p_b4), .p (.nil)])]⟩
def S5_1111010_s1 (colors' : List PV) (t40_o : Nat) (t40_l : Nat) (t41' : Int) (t42' : Int) (b10_b0 : Int) (b10_b1 : Int) (b10_b2 : Int) (b10_b3 : Int) (b10_b4 : Int) (l_b : List PV) (p_b0 : Int) (p_b1 : Int) (p_b2 : Int) (p_b3 : Int) (p_b4 : Int) (p_b5_o : Nat) (p_b5_l : Nat) (b62_b : List PV) : St := ⟨.undef :: .undef :: .undef :: (.p (.list true [.int .u8, .int .u8, .int .u8] colors')) :: .undef :: .undef :: .undef :: .undef :: .undef :: .undef :: (.ptr 10 0 0) :: .undef :: .undef :: .undef :: (.ptr 14 0 0) :: .undef :: .undef :: .undef :: .undef :: .undef :: .undef :: .undef :: .undef :: .undef :: .undef :: .undef :: .undef :: .undef :: .undef :: .undef :: .undef :: .undef :: .undef :: .undef :: .undef :: .undef :: .undef :: .undef :: .undef :: .undef :: (.slice 12 5 t40_o t40_l) :: (.p (.int .i64 t41')) :: (.p (.int .i64 t42')) :: List.replicate 23 .undef, [(10, .box [.p (.int .i64 b10_b0), .p (.int .i64 b10_b1), .p (.int .u8 b10_b2), .p (.int .u8 b10_b3), .p (.int .u8 b10_b4), .p (.nil)]), (12, .arr true [.int .i64, .int .i64, .int .i64, .int .i64, .int .i64] l_b), (14, .box [.p (.int .i64 p_b0), .p (.int .i64 p_b1), .p (.int .u8 p_b2), .p (.int .u8 p_b3), .p (.int .u8 p_b4), .slice 62 6 p_b5_o p_b5_l]), (62, .arr true [.int .i64, .int .i64, .int .i64, .int .u8, .int .u8, .int .u8] b62_b)]⟩
theorem e5 (C : CallF) (c_0 : Int) (c_1 : Int) (c_2 : Int) (c_3 : Int) (c_4 : Int) (c_5 : Int) (c_6 : Int) (c_7 : Int) (c_8 : Int) (c_9 : Int) (c_10 : Int) (c_11 : Int) (c_12 : Int) (c_13 : Int) (c_14 : Int) (c_15 : Int) (back_0 : Int) (back_1 : Int) (back_2 : Int) (points : List PV) (colors : List PV) (radius : Int) : acallI tab C 5 [.p (.agg [.int .i64 c_0, .int .i64 c_1, .int .i64 c_2, .int .i64 c_3, .int .i64 c_4, .int .i64 c_5, .int .i64 c_6, .int .i64 c_7, .int .i64 c_8, .int .i64 c_9, .int .i64 c_10, .int .i64 c_11, .int .i64 c_12, .int .i64 c_13, .int .i64 c_14, .int .i64 c_15]), .p (.agg [.int .u8 back_0, .int .u8 back_1, .int .u8 back_2]), .p (.list true [.int .i64, .int .i64, .int .i64] points), .p (.list true [.int .u8, .int .u8, .int .u8] colors), .p (.int .i64 radius)] [] =
  (C 16 [.p (.agg [.int .i64 c_0, .int .i64 c_1, .int .i64 c_2, .int .i64 c_3, .int .i64 c_4, .int .i64 c_5, .int .i64 c_6, .int .i64 c_7, .int .i64 c_8, .int .i64 c_9, .int .i64 c_10, .int .i64 c_11, .int .i64 c_12, .int .i64 c_13, .int .i64 c_14, .int .i64 c_15]), .p (.list true [.int .i64, .int .i64, .int .i64] points), .p (.int .i64 radius)] []).bind fun r1 =>
  bif ((r1.1.tail.headD .undef).pv.toInt != (0 : Int)) then
    some ([.agg [.p (.int .i64 0), .p (.int .i64 0), .p (.int .u8 0), .p (.int .u8 0), .p (.int .u8 0), .fresh true [.int .i64, .int .i64, .int .i64, .int .u8, .int .u8, .int .u8] []], .p (.int .i64 2)], [])
  else
    bif (((points.length : Nat) : Int) != ((colors.length : Nat) : Int)) then
      some ([.agg [.p (.int .i64 0), .p (.int .i64 0), .p (.int .u8 0), .p (.int .u8 0), .p (.int .u8 0), .fresh true [.int .i64, .int .i64, .int .i64, .int .u8, .int .u8, .int .u8] []], .p (.int .i64 2)], [])
    else
      L tab C 5 [] [.lp [1, 1, 1, 1, 0, 1, 0]] (S5_1111010 colors 0 ((r1.1.headD .undef).freshList.length) (((r1.1.headD .undef).freshList.length : Nat) : Int) 0 0 0 0 0 0 ((r1.1.headD .undef).freshList) c_13 c_14 back_0 back_1 back_2) := by kernel_rfl
theorem e5_1111010 (C : CallF) (colors' : List PV) (t40_o : Nat) (t40_l : Nat) (t41' : Int) (t42' : Int) (b10_b0 : Int) (b10_b1 : Int) (b10_b2 : Int) (b10_b3 : Int) (b10_b4 : Int) (l_b : List PV) (p_b0 : Int) (p_b1 : Int) (p_b2 : Int) (p_b3 : Int) (p_b4 : Int) : R tab C 5 [] [.lp [1, 1, 1, 1, 0, 1, 0]] (S5_1111010 colors' t40_o t40_l t41' t42' b10_b0 b10_b1 b10_b2 b10_b3 b10_b4 l_b p_b0 p_b1 p_b2 p_b3 p_b4) =
  bif (ltI t42' t41') then
    bif ((leI (0 : Int) t42') && (ltI t42' (t40_l : Int))) then bif ((leI (0 : Int) (((l_b.getD (t40_o + t42'.toNat) .nil).cell 0).toInt)) && (ltI (((l_b.getD (t40_o + t42'.toNat) .nil).cell 0).toInt) ((colors'.length : Nat) : Int))) then L tab C 5 [] [.lp [1, 1, 1, 1, 0, 1, 0]] (S5_1111010_s1 colors' t40_o t40_l t41' (IntKind.i64.wrap (t42' + (1 : Int))) b10_b0 b10_b1 b10_b2 b10_b3 b10_b4 l_b p_b0 p_b1 p_b2 p_b3 p_b4 0 1 [.agg [.int .i64 (((l_b.getD (t40_o + t42'.toNat) .nil).cell 1).toInt), .int .i64 (((l_b.getD (t40_o + t42'.toNat) .nil).cell 2).toInt), .int .i64 (goMin (((l_b.getD (t40_o + t42'.toNat) .nil).cell 3).toInt) 4096), .int .u8 (((colors'.getD (((l_b.getD (t40_o + t42'.toNat) .nil).cell 0).toInt.toNat) .nil).cell 0).toInt), .int .u8 (((colors'.getD (((l_b.getD (t40_o + t42'.toNat) .nil).cell 0).toInt.toNat) .nil).cell 1).toInt), .int .u8 (((colors'.getD (((l_b.getD (t40_o + t42'.toNat) .nil).cell 0).toInt.toNat) .nil).cell 2).toInt)]]) else none else none
  else
    some ([.agg [.p (.int .i64 p_b0), .p (.int .i64 p_b1), .p (.int .u8 p_b2), .p (.int .u8 p_b3), .p (.int .u8 p_b4), .fresh true [.int .i64, .int .i64, .int .i64, .int .u8, .int .u8, .int .u8] []], .p (.int .i64 0)], []) := by kernel_rfl
theorem e5_1111010_s1 (C : CallF) (colors' : List PV) (t40_o : Nat) (t40_l : Nat) (t41' : Int) (t42' : Int) (b10_b0 : Int) (b10_b1 : Int) (b10_b2 : Int) (b10_b3 : Int) (b10_b4 : Int) (l_b : List PV) (p_b0 : Int) (p_b1 : Int) (p_b2 : Int) (p_b3 : Int) (p_b4 : Int) (p_b5_o : Nat) (p_b5_l : Nat) (b62_b : List PV) : R tab C 5 [] [.lp [1, 1, 1, 1, 0, 1, 0]] (S5_1111010_s1 colors' t40_o t40_l t41' t42' b10_b0 b10_b1 b10_b2 b10_b3 b10_b4 l_b p_b0 p_b1 p_b2 p_b3 p_b4 p_b5_o p_b5_l b62_b) =
  bif (ltI t42' t41') then
    bif ((leI (0 : Int) t42') && (ltI t42' (t40_l : Int))) then bif ((leI (0 : Int) (((l_b.getD (t40_o + t42'.toNat) .nil).cell 0).toInt)) && (ltI (((l_b.getD (t40_o + t42'.toNat) .nil).cell 0).toInt) ((colors'.length : Nat) : Int))) then bif (leN (p_b5_l + 1) 2147483648) then L tab C 5 [] [.lp [1, 1, 1, 1, 0, 1, 0]] (S5_1111010_s1 colors' t40_o t40_l t41' (IntKind.i64.wrap (t42' + (1 : Int))) b10_b0 b10_b1 b10_b2 b10_b3 b10_b4 l_b p_b0 p_b1 p_b2 p_b3 p_b4 0 (p_b5_l + 1) (((b62_b.drop p_b5_o).take p_b5_l) ++ ([.agg [.int .i64 (((l_b.getD (t40_o + t42'.toNat) .nil).cell 1).toInt), .int .i64 (((l_b.getD (t40_o + t42'.toNat) .nil).cell 2).toInt), .int .i64 (goMin (((l_b.getD (t40_o + t42'.toNat) .nil).cell 3).toInt) 4096), .int .u8 (((colors'.getD (((l_b.getD (t40_o + t42'.toNat) .nil).cell 0).toInt.toNat) .nil).cell 0).toInt), .int .u8 (((colors'.getD (((l_b.getD (t40_o + t42'.toNat) .nil).cell 0).toInt.toNat) .nil).cell 1).toInt), .int .u8 (((colors'.getD (((l_b.getD (t40_o + t42'.toNat) .nil).cell 0).toInt.toNat) .nil).cell 2).toInt)]] : List PV))) else none else none else none
  else
    some ([.agg [.p (.int .i64 p_b0), .p (.int .i64 p_b1), .p (.int .u8 p_b2), .p (.int .u8 p_b3), .p (.int .u8 p_b4), .fresh true [.int .i64, .int .i64, .int .i64, .int .u8, .int .u8, .int .u8] ((b62_b.drop p_b5_o).take p_b5_l)], .p (.int .i64 0)], []) := by kernel_rfl
def S6_1111010 (colors' : List PV) (l_o : Nat) (l_l : Nat) (i' : Int) (b10_b0 : Int) (b10_b1 : Int) (b10_b2 : Int) (b10_b3 : Int) (b10_b4 : Int) (l_b : List PV) (p_b0 : Int) (p_b1 : Int) (p_b2 : Int) (p_b3 : Int) (p_b4 : Int) : St := ⟨.undef :: .undef :: .undef :: (.p (.list true [.int .u8, .int .u8, .int .u8] colors')) :: .undef :: .undef :: .undef :: .undef :: .undef :: .undef :: (.ptr 10 0 0) :: .undef :: (.slice 12 5 l_o l_l) :: .undef :: (.ptr 14 0 0) :: (.p (.int .i64 i')) :: List.replicate 60 .undef, [(10, .box [.p (.int .i64 b10_b0), .p (.int .i64 b10_b1), .p (.int .u8 b10_b2), .p (.int .u8 b10_b3), .p (.int .u8 b10_b4), .p (.nil)]), (12, .arr true [.int .i64, .int .i64, .int .i64, .int .i64, .int .i64] l_b), (14, .box [.p (.int .i64 p_b0), .p (.int .i64 p_b1), .p (.int .u8 p_b2), .p (.int .u8 p_b3), .p (.int .u8 p_b4), .p (.nil)])]⟩
def S6_1111010_s1 (colors' : List PV) (l_o : Nat) (l_l : Nat) (i' : Int) (b10_b0 : Int) (b10_b1 : Int) (b10_b2 : Int) (b10_b3 : Int) (b10_b4 : Int) (l_b : List PV) (p_b0 : Int) (p_b1 : Int) (p_b2 : Int) (p_b3 : Int) (p_b4 : Int) (p_b5_o : Nat) (p_b5_l : Nat) (b73_b : List PV) : St := ⟨.undef :: .undef :: .undef :: (.p (.list true [.int .u8, .int .u8, .int .u8] colors')) :: .undef :: .undef :: .undef :: .undef :: .undef :: .undef :: (.ptr 10 0 0) :: .undef :: (.slice 12 5 l_o l_l) :: .undef :: (.ptr 14 0 0) :: (.p (.int .i64 i')) :: List.replicate 60 .undef, [(10, .box [.p (.int .i64 b10_b0), .p (.int .i64 b10_b1), .p (.int .u8 b10_b2), .p (.int .u8 b10_b3), .p (.int .u8 b10_b4), .p (.nil)]), (12, .arr true [.int .i64, .int .i64, .int .i64, .int .i64, .int .i64] l_b), (14, .box [.p (.int .i64 p_b0), .p (.int .i64 p_b1), .p (.int .u8 p_b2), .p (.int .u8 p_b3), .p (.int .u8 p_b4), .slice 73 6 p_b5_o p_b5_l]), (73, .arr true [.int .i64, .int .i64, .int .i64, .int .u8, .int .u8, .int .u8] b73_b)]⟩
theorem e6 (C : CallF) (c_0 : Int) (c_1 : Int) (c_2 : Int) (c_3 : Int) (c_4 : Int) (c_5 : Int) (c_6 : Int) (c_7 : Int) (c_8 : Int) (c_9 : Int) (c_10 : Int) (c_11 : Int) (c_12 : Int) (c_13 : Int) (c_14 : Int) (c_15 : Int) (back_0 : Int) (back_1 : Int) (back_2 : Int) (points : List PV) (colors : List PV) (radius : Int) : acallI tab C 6 [.p (.agg [.int .i64 c_0, .int .i64 c_1, .int .i64 c_2, .int .i64 c_3, .int .i64 c_4, .int .i64 c_5, .int .i64 c_6, .int .i64 c_7, .int .i64 c_8, .int .i64 c_9, .int .i64 c_10, .int .i64 c_11, .int .i64 c_12, .int .i64 c_13, .int .i64 c_14, .int .i64 c_15]), .p (.agg [.int .u8 back_0, .int .u8 back_1, .int .u8 back_2]), .p (.list true [.int .i64, .int .i64, .int .i64] points), .p (.list true [.int .u8, .int .u8, .int .u8] colors), .p (.int .i64 radius)] [] =
  (C 17 [.p (.agg [.int .i64 c_0, .int .i64 c_1, .int .i64 c_2, .int .i64 c_3, .int .i64 c_4, .int .i64 c_5, .int .i64 c_6, .int .i64 c_7, .int .i64 c_8, .int .i64 c_9, .int .i64 c_10, .int .i64 c_11, .int .i64 c_12, .int .i64 c_13, .int .i64 c_14, .int .i64 c_15]), .p (.list true [.int .i64, .int .i64, .int .i64] points), .p (.int .i64 radius)] []).bind fun r1 =>
  bif ((r1.1.tail.headD .undef).pv.toInt != (0 : Int)) then
    some ([.agg [.p (.int .i64 0), .p (.int .i64 0), .p (.int .u8 0), .p (.int .u8 0), .p (.int .u8 0), .fresh true [.int .i64, .int .i64, .int .i64, .int .u8, .int .u8, .int .u8] []], .p (.int .i64 2)], [])
  else
    bif (((colors.length : Nat) : Int) != ((points.length : Nat) : Int)) then
      some ([.agg [.p (.int .i64 0), .p (.int .i64 0), .p (.int .u8 0), .p (.int .u8 0), .p (.int .u8 0), .fresh true [.int .i64, .int .i64, .int .i64, .int .u8, .int .u8, .int .u8] []], .p (.int .i64 2)], [])
    else
      L tab C 6 [] [.lp [1, 1, 1, 1, 0, 1, 0]] (S6_1111010 colors 0 ((r1.1.headD .undef).freshList.length) 0 0 0 0 0 0 ((r1.1.headD .undef).freshList) c_13 c_14 back_0 back_1 back_2) := by kernel_rfl
theorem e6_1111010 (C : CallF) (colors' : List PV) (l_o : Nat) (l_l : Nat) (i' : Int) (b10_b0 : Int) (b10_b1 : Int) (b10_b2 : Int) (b10_b3 : Int) (b10_b4 : Int) (l_b : List PV) (p_b0 : Int) (p_b1 : Int) (p_b2 : Int) (p_b3 : Int) (p_b4 : Int) : R tab C 6 [] [.lp [1, 1, 1, 1, 0, 1, 0]] (S6_1111010 colors' l_o l_l i' b10_b0 b10_b1 b10_b2 b10_b3 b10_b4 l_b p_b0 p_b1 p_b2 p_b3 p_b4) =
  bif (ltI i' (l_l : Int)) then
    bif ((leI (0 : Int) i') && (ltI i' (l_l : Int))) then bif ((leI (0 : Int) i') && (ltI i' (l_l : Int))) then bif ((leI (0 : Int) i') && (ltI i' (l_l : Int))) then bif ((leI (0 : Int) i') && (ltI i' (l_l : Int))) then bif ((leI (0 : Int) (((l_b.getD (l_o + i'.toNat) .nil).cell 0).toInt)) && (ltI (((l_b.getD (l_o + i'.toNat) .nil).cell 0).toInt) ((colors'.length : Nat) : Int))) then L tab C 6 [] [.lp [1, 1, 1, 1, 0, 1, 0]] (S6_1111010_s1 colors' l_o l_l (IntKind.i64.wrap (i' + (1 : Int))) b10_b0 b10_b1 b10_b2 b10_b3 b10_b4 l_b p_b0 p_b1 p_b2 p_b3 p_b4 0 1 [.agg [.int .i64 (((l_b.getD (l_o + i'.toNat) .nil).cell 1).toInt), .int .i64 (((l_b.getD (l_o + i'.toNat) .nil).cell 2).toInt), .int .i64 (goMin 4096 (((l_b.getD (l_o + i'.toNat) .nil).cell 3).toInt)), .int .u8 (((colors'.getD (((l_b.getD (l_o + i'.toNat) .nil).cell 0).toInt.toNat) .nil).cell 0).toInt), .int .u8 (((colors'.getD (((l_b.getD (l_o + i'.toNat) .nil).cell 0).toInt.toNat) .nil).cell 1).toInt), .int .u8 (((colors'.getD (((l_b.getD (l_o + i'.toNat) .nil).cell 0).toInt.toNat) .nil).cell 2).toInt)]]) else none else none else none else none else none
  else
    some ([.agg [.p (.int .i64 p_b0), .p (.int .i64 p_b1), .p (.int .u8 p_b2), .p (.int .u8 p_b3), .p (.int .u8 p_b4), .fresh true [.int .i64, .int .i64, .int .i64, .int .u8, .int .u8, .int .u8] []], .p (.int .i64 0)], []) := by kernel_rfl
theorem e6_1111010_s1 (C : CallF) (colors' : List PV) (l_o : Nat) (l_l : Nat) (i' : Int) (b10_b0 : Int) (b10_b1 : Int) (b10_b2 : Int) (b10_b3 : Int) (b10_b4 : Int) (l_b : List PV) (p_b0 : Int) (p_b1 : Int) (p_b2 : Int) (p_b3 : Int) (p_b4 : Int) (p_b5_o : Nat) (p_b5_l : Nat) (b73_b : List PV) : R tab C 6 [] [.lp [1, 1, 1, 1, 0, 1, 0]] (S6_1111010_s1 colors' l_o l_l i' b10_b0 b10_b1 b10_b2 b10_b3 b10_b4 l_b p_b0 p_b1 p_b2 p_b3 p_b4 p_b5_o p_b5_l b73_b) =
  bif (ltI i' (l_l : Int)) then
    bif ((leI (0 : Int) i') && (ltI i' (l_l : Int))) then bif ((leI (0 : Int) i') && (ltI i' (l_l : Int))) then bif ((leI (0 : Int) i') && (ltI i' (l_l : Int))) then bif ((leI (0 : Int) i') && (ltI i' (l_l : Int))) then bif ((leI (0 : Int) (((l_b.getD (l_o + i'.toNat) .nil).cell 0).toInt)) && (ltI (((l_b.getD (l_o + i'.toNat) .nil).cell 0).toInt) ((colors'.length : Nat) : Int))) then bif (leN (p_b5_l + 1) 2147483648) then L tab C 6 [] [.lp [1, 1, 1, 1, 0, 1, 0]] (S6_1111010_s1 colors' l_o l_l (IntKind.i64.wrap (i' + (1 : Int))) b10_b0 b10_b1 b10_b2 b10_b3 b10_b4 l_b p_b0 p_b1 p_b2 p_b3 p_b4 0 (p_b5_l + 1) (((b73_b.drop p_b5_o).take p_b5_l) ++ ([.agg [.int .i64 (((l_b.getD (l_o + i'.toNat) .nil).cell 1).toInt), .int .i64 (((l_b.getD (l_o + i'.toNat) .nil).cell 2).toInt), .int .i64 (goMin 4096 (((l_b.getD (l_o + i'.toNat) .nil).cell 3).toInt)), .int .u8 (((colors'.getD (((l_b.getD (l_o + i'.toNat) .nil).cell 0).toInt.toNat) .nil).cell 0).toInt), .int .u8 (((colors'.getD (((l_b.getD (l_o + i'.toNat) .nil).cell 0).toInt.toNat) .nil).cell 1).toInt), .int .u8 (((colors'.getD (((l_b.getD (l_o + i'.toNat) .nil).cell 0).toInt.toNat) .nil).cell 2).toInt)]] : List PV))) else none else none else none else none else none else none
  else
    some ([.agg [.p (.int .i64 p_b0), .p (.int .i64 p_b1), .p (.int .u8 p_b2), .p (.int .u8 p_b3), .p (.int .u8 p_b4), .fresh true [.int .i64, .int .i64, .int .i64, .int .u8, .int .u8, .int .u8] ((b73_b.drop p_b5_o).take p_b5_l)], .p (.int .i64 0)], []) := by kernel_rfl
def S7_11010 (i' : Int) (a_b0 : Int) (a_b1 : Int) (a_b2 : Int) (a_b3 : Int) (a_b4 : Int) (a_b5 : List PV) (b_b0 : Int) (b_b1 : Int) (b_b2 : Int) (b_b3 : Int) (b_b4 : Int) (b_b5 : List PV) : St := ⟨.undef :: .undef :: (.ptr 2 0 0) :: (.ptr 3 0 0) :: .undef :: (.p (.int .i64 i')) :: List.replicate 46 .undef, [(2, .box [.p (.int .i64 a_b0), .p (.int .i64 a_b1), .p (.int .u8 a_b2), .p (.int .u8 a_b3), .p (.int .u8 a_b4), .p (.list true [.int .i64, .int .i64, .int .i64, .int .u8, .int .u8, .int .u8] a_b5)]), (3, .box [.p (.int .i64 b_b0), .p (.int .i64 b_b1), .p (.int .u8 b_b2), .p (.int .u8 b_b3), .p (.int .u8 b_b4), .p (.list true [.int .i64, .int .i64, .int .i64, .int .u8, .int .u8, .int .u8] b_b5)])]⟩
theorem e7 (C : CallF) (a_0 : Int) (a_1 : Int) (a_2 : Int) (a_3 : Int) (a_4 : Int) (a_5 : List PV) (b_0 : Int) (b_1 : Int) (b_2 : Int) (b_3 : Int) (b_4 : Int) (b_5 : List PV) : acallI tab C 7 [.p (.agg [.int .i64 a_0, .int .i64 a_1, .int .u8 a_2, .int .u8 a_3, .int .u8 a_4, .list true [.int .i64, .int .i64, .int .i64, .int .u8, .int .u8, .int .u8] a_5]), .p (.agg [.int .i64 b_0, .int .i64 b_1, .int .u8 b_2, .int .u8 b_3, .int .u8 b_4, .list true [.int .i64, .int .i64, .int .i64, .int .u8, .int .u8, .int .u8] b_5])] [] =
  bif (a_0 != b_0) then
    some ([.p (.bool false)], [])
  else
    bif (a_1 != b_1) then
      some ([.p (.bool false)], [])
    else
      bif (!((a_2 == b_2) && ((a_3 == b_3) && ((a_4 == b_4) && true)))) then
        some ([.p (.bool false)], [])
      else
        bif (((a_5.length : Nat) : Int) != ((b_5.length : Nat) : Int)) then
          some ([.p (.bool false)], [])
        else
          L tab C 7 [] [.lp [1, 1, 0, 1, 0]] (S7_11010 0 a_0 a_1 a_2 a_3 a_4 a_5 b_0 b_1 b_2 b_3 b_4 b_5) := by kernel_rfl
theorem e7_11010 (C : CallF) (i' : Int) (a_b0 : Int) (a_b1 : Int) (a_b2 : Int) (a_b3 : Int) (a_b4 : Int) (a_b5 : List PV) (b_b0 : Int) (b_b1 : Int) (b_b2 : Int) (b_b3 : Int) (b_b4 : Int) (b_b5 : List PV) : R tab C 7 [] [.lp [1, 1, 0, 1, 0]] (S7_11010 i' a_b0 a_b1 a_b2 a_b3 a_b4 a_b5 b_b0 b_b1 b_b2 b_b3 b_b4 b_b5) =
  bif (ltI i' ((a_b5.length : Nat) : Int)) then
    bif ((leI (0 : Int) i') && (ltI i' ((a_b5.length : Nat) : Int))) then bif ((leI (0 : Int) i') && (ltI i' ((b_b5.length : Nat) : Int))) then bif (!((((a_b5.getD i'.toNat .nil).cell 0).toInt == ((b_b5.getD i'.toNat .nil).cell 0).toInt) && ((((a_b5.getD i'.toNat .nil).cell 1).toInt == ((b_b5.getD i'.toNat .nil).cell 1).toInt) && ((((a_b5.getD i'.toNat .nil).cell 2).toInt == ((b_b5.getD i'.toNat .nil).cell 2).toInt) && (((((a_b5.getD i'.toNat .nil).cell 3).toInt == ((b_b5.getD i'.toNat .nil).cell 3).toInt) && ((((a_b5.getD i'.toNat .nil).cell 4).toInt == ((b_b5.getD i'.toNat .nil).cell 4).toInt) && ((((a_b5.getD i'.toNat .nil).cell 5).toInt == ((b_b5.getD i'.toNat .nil).cell 5).toInt) && true))) && true))))) then
      some ([.p (.bool false)], [])
    else
      L tab C 7 [] [.lp [1, 1, 0, 1, 0]] (S7_11010 (IntKind.i64.wrap (i' + (1 : Int))) a_b0 a_b1 a_b2 a_b3 a_b4 a_b5 b_b0 b_b1 b_b2 b_b3 b_b4 b_b5) else none else none
  else
    some ([.p (.bool true)], []) := by kernel_rfl
def S7_11010n (i' : Int) (a_b0 : Int) (a_b1 : Int) (a_b2 : Int) (a_b3 : Int) (a_b4 : Int) (a_b5 : List PV) (b_b0 : Int) (b_b1 : Int) (b_b2 : Int) (b_b3 : Int) (b_b4 : Int) : St := ⟨.undef :: .undef :: (.ptr 2 0 0) :: (.ptr 3 0 0) :: .undef :: (.p (.int .i64 i')) :: List.replicate 46 .undef, [(2, .box [.p (.int .i64 a_b0), .p (.int .i64 a_b1), .p (.int .u8 a_b2), .p (.int .u8 a_b3), .p (.int .u8 a_b4), .p (.list true [.int .i64, .int .i64, .int .i64, .int .u8, .int .u8, .int .u8] a_b5)]), (3, .box [.p (.int .i64 b_b0), .p (.int .i64 b_b1), .p (.int .u8 b_b2), .p (.int .u8 b_b3), .p (.int .u8 b_b4), .p (.nil)])]⟩
theorem e7n (C : CallF) (a_0 : Int) (a_1 : Int) (a_2 : Int) (a_3 : Int) (a_4 : Int) (a_5 : List PV) (b_0 : Int) (b_1 : Int) (b_2 : Int) (b_3 : Int) (b_4 : Int) : acallI tab C 7 [.p (.agg [.int .i64 a_0, .int .i64 a_1, .int .u8 a_2, .int .u8 a_3, .int .u8 a_4, .list true [.int .i64, .int .i64, .int .i64, .int .u8, .int .u8, .int .u8] a_5]), .p (.agg [.int .i64 b_0, .int .i64 b_1, .int .u8 b_2, .int .u8 b_3, .int .u8 b_4, .nil])] [] =
  bif (a_0 != b_0) then
    some ([.p (.bool false)], [])
  else
    bif (a_1 != b_1) then
      some ([.p (.bool false)], [])
    else
      bif (!((a_2 == b_2) && ((a_3 == b_3) && ((a_4 == b_4) && true)))) then
        some ([.p (.bool false)], [])
      else
        bif (((a_5.length : Nat) : Int) != (0 : Int)) then
          some ([.p (.bool false)], [])
        else
          L tab C 7 [] [.lp [1, 1, 0, 1, 0]] (S7_11010n 0 a_0 a_1 a_2 a_3 a_4 a_5 b_0 b_1 b_2 b_3 b_4) := by kernel_rfl
theorem e7_11010n (C : CallF) (i' : Int) (a_b0 : Int) (a_b1 : Int) (a_b2 : Int) (a_b3 : Int) (a_b4 : Int) (a_b5 : List PV) (b_b0 : Int) (b_b1 : Int) (b_b2 : Int) (b_b3 : Int) (b_b4 : Int) : R tab C 7 [] [.lp [1, 1, 0, 1, 0]] (S7_11010n i' a_b0 a_b1 a_b2 a_b3 a_b4 a_b5 b_b0 b_b1 b_b2 b_b3 b_b4) =
  bif (ltI i' ((a_b5.length : Nat) : Int)) then
    bif ((leI (0 : Int) i') && (ltI i' ((a_b5.length : Nat) : Int))) then none else none
  else
    some ([.p (.bool true)], []) := by kernel_rfl
def S8_11010 (a' : List PV) (b' : List PV) (i' : Int) : St := ⟨(.p (.list true [.int .u8, .int .u8, .int .u8] a')) :: (.p (.list true [.int .u8, .int .u8, .int .u8] b')) :: .undef :: .undef :: .undef :: (.p (.int .i64 i')) :: List.replicate 20 .undef, []⟩
theorem e8 (C : CallF) (a : List PV) (b : List PV) : acallI tab C 8 [.p (.list true [.int .u8, .int .u8, .int .u8] a), .p (.list true [.int .u8, .int .u8, .int .u8] b)] [] =
  bif (((a.length : Nat) : Int) != ((b.length : Nat) : Int)) then
    some ([.p (.bool false)], [])
  else
    L tab C 8 [] [.lp [1, 1, 0, 1, 0]] (S8_11010 a b 0) := by kernel_rfl
theorem e8_11010 (C : CallF) (a' : List PV) (b' : List PV) (i' : Int) : R tab C 8 [] [.lp [1, 1, 0, 1, 0]] (S8_11010 a' b' i') =
  bif (ltI i' ((a'.length : Nat) : Int)) then
    bif ((leI (0 : Int) i') && (ltI i' ((a'.length : Nat) : Int))) then bif ((leI (0 : Int) i') && (ltI i' ((b'.length : Nat) : Int))) then bif (!((((a'.getD i'.toNat .nil).cell 0).toInt == ((b'.getD i'.toNat .nil).cell 0).toInt) && ((((a'.getD i'.toNat .nil).cell 1).toInt == ((b'.getD i'.toNat .nil).cell 1).toInt) && ((((a'.getD i'.toNat .nil).cell 2).toInt == ((b'.getD i'.toNat .nil).cell 2).toInt) && true)))) then
      some ([.p (.bool false)], [])
    else
      L tab C 8 [] [.lp [1, 1, 0, 1, 0]] (S8_11010 a' b' (IntKind.i64.wrap (i' + (1 : Int)))) else none else none
  else
    some ([.p (.bool true)], []) := by kernel_rfl
theorem e9 (C : CallF)  : acallI tab C 9 [] [] =
  some ([.p (.agg [.int .i64 20, .int .i64 10, .int .u8 0, .int .u8 0, .int .u8 0, .list true [.int .i64, .int .i64, .int .i64, .int .u8, .int .u8, .int .u8] [.agg [.int .i64 5, .int .i64 5, .int .i64 2, .int .u8 255, .int .u8 0, .int .u8 0], .agg [.int .i64 7, .int .i64 5, .int .i64 1, .int .u8 0, .int .u8 0, .int .u8 255]]])], []) := by kernel_rfl
def S10_1111010 (t20' : List PV) (t21' : Int) (t22' : Int) (b18_b : List PV) : St := ⟨.undef :: .undef :: .undef :: .undef :: (.ptr 4 0 0) :: .undef :: .undef :: .undef :: .undef :: .undef :: .undef :: .undef :: .undef :: .undef :: .undef :: .undef :: .undef :: .undef :: .undef :: .undef :: (.p (.list true [.int .i64, .int .i64, .int .i64, .int .u8, .int .u8, .int .u8] t20')) :: (.p (.int .i64 t21')) :: (.p (.int .i64 t22')) :: List.replicate 16 .undef, [(4, .tb 64 (.ptr 4 0 0) (.mref 18)), (18, .br 5 b18_b)]⟩
theorem e10 (C : CallF) (p_0 : Int) (p_1 : Int) (p_2 : Int) (p_3 : Int) (p_4 : Int) (p_5 : List PV) : acallI tab C 10 [.p (.agg [.int .i64 p_0, .int .i64 p_1, .int .u8 p_2, .int .u8 p_3, .int .u8 p_4, .list true [.int .i64, .int .i64, .int .i64, .int .u8, .int .u8, .int .u8] p_5])] [] =
  (C 18 [.p (.agg [.int .i64 p_0, .int .i64 p_1, .int .u8 p_2, .int .u8 p_3, .int .u8 p_4, .list true [.int .i64, .int .i64, .int .i64, .int .u8, .int .u8, .int .u8] p_5])] []).bind fun r1 =>
  bif (!(r1.1.headD .undef).pv.toBool) then
    some ([.p (.str ⟨#[]⟩), .p (.int .i64 2)], [])
  else
    (C 20 [.p (.str ⟨#[112, 105, 99, 116, 117, 114, 101]⟩), .p (.agg [.int .u8 p_2, .int .u8 p_3, .int .u8 p_4]), .p (.list false [.int .i64] [.int .i64 p_0, .int .i64 p_1])] []).bind fun r2 =>
    bif (leN (((r2.1.headD .undef).pv.toStr).size) 2147483648) then L tab C 10 [] [.lp [1, 1, 1, 1, 0, 1, 0]] (S10_1111010 p_5 ((p_5.length : Nat) : Int) 0 (strPVs ((r2.1.headD .undef).pv.toStr))) else none := by kernel_rfl
theorem e10_1111010 (C : CallF) (t20' : List PV) (t21' : Int) (t22' : Int) (b18_b : List PV) : R tab C 10 [] [.lp [1, 1, 1, 1, 0, 1, 0]] (S10_1111010 t20' t21' t22' b18_b) =
  bif (ltI t22' t21') then
    bif ((leI (0 : Int) t22') && (ltI t22' ((t20'.length : Nat) : Int))) then (C 20 [.p (.str ⟨#[100, 111, 116]⟩), .p (.agg [.int .u8 (((t20'.getD t22'.toNat .nil).cell 3).toInt), .int .u8 (((t20'.getD t22'.toNat .nil).cell 4).toInt), .int .u8 (((t20'.getD t22'.toNat .nil).cell 5).toInt)]), .p (.list false [.int .i64] [.int .i64 (((t20'.getD t22'.toNat .nil).cell 0).toInt), .int .i64 (((t20'.getD t22'.toNat .nil).cell 1).toInt), .int .i64 (((t20'.getD t22'.toNat .nil).cell 2).toInt)])] []).bind fun r1 =>
    bif (leN (b18_b.length + ((r1.1.headD .undef).pv.toStr).size) 2147483648) then L tab C 10 [] [.lp [1, 1, 1, 1, 0, 1, 0]] (S10_1111010 t20' t21' (IntKind.i64.wrap (t22' + (1 : Int))) (b18_b ++ (strPVs ((r1.1.headD .undef).pv.toStr)))) else none else none
  else
    bif (leN b18_b.length 2147483648) then bif (b18_b.all PV.isByte) then some ([.p (.str (bytesOf b18_b)), .p (.int .i64 0)], []) else none else none := by kernel_rfl
def S11_101111010 (t34_c0_r0 : List PV) (x_b0 : Int) (y_b0 : Int) (b6_b0 : Int) (b6_b1 : Int) (b6_b2 : Int) (c_b0 : Int) (c_b1 : Int) (c_b2 : Int) : St := ⟨.undef :: .undef :: .undef :: .undef :: (.ptr 4 0 0) :: (.ptr 5 0 0) :: (.ptr 6 0 0) :: .undef :: (.ptr 8 0 0) :: .undef :: .undef :: .undef :: .undef :: .undef :: .undef :: .undef :: .undef :: .undef :: .undef :: .undef :: .undef :: .undef :: .undef :: .undef :: .undef :: .undef :: .undef :: .undef :: .undef :: .undef :: .undef :: .undef :: .undef :: .undef :: (.p (.fn 40 [.ref [.list true [.int .i64, .int .i64, .int .i64, .int .u8, .int .u8, .int .u8] t34_c0_r0]])) :: List.replicate 9 .undef, [(4, .box [.p (.int .i64 x_b0)]), (5, .box [.p (.int .i64 y_b0)]), (6, .box [.p (.int .u8 b6_b0), .p (.int .u8 b6_b1), .p (.int .u8 b6_b2)]), (8, .box [.p (.int .u8 c_b0), .p (.int .u8 c_b1), .p (.int .u8 c_b2)])]⟩
theorem e11 (C : CallF) (p_0 : Int) (p_1 : Int) (p_2 : Int) (p_3 : Int) (p_4 : Int) (p_5 : List PV) (x : Int) (y : Int) : acallI tab C 11 [.p (.agg [.int .i64 p_0, .int .i64 p_1, .int .u8 p_2, .int .u8 p_3, .int .u8 p_4, .list true [.int .i64, .int .i64, .int .i64, .int .u8, .int .u8, .int .u8] p_5]), .p (.int .i64 x), .p (.int .i64 y)] [] =
  (C 18 [.p (.agg [.int .i64 p_0, .int .i64 p_1, .int .u8 p_2, .int .u8 p_3, .int .u8 p_4, .list true [.int .i64, .int .i64, .int .i64, .int .u8, .int .u8, .int .u8] p_5])] []).bind fun r1 =>
  bif (!(r1.1.headD .undef).pv.toBool) then
    some ([.p (.agg [.int .u8 0, .int .u8 0, .int .u8 0]), .p (.int .i64 2)], [])
  else
    (C 22 [.p (.int .i64 x), .p (.int .i64 0), .p (.int .i64 (IntKind.i64.wrap (p_0 - (1 : Int))))] []).bind fun r2 =>
    bif (!(r2.1.headD .undef).pv.toBool) then
      some ([.p (.agg [.int .u8 0, .int .u8 0, .int .u8 0]), .p (.int .i64 3)], [])
    else
      (C 22 [.p (.int .i64 y), .p (.int .i64 0), .p (.int .i64 (IntKind.i64.wrap (p_1 - (1 : Int))))] []).bind fun r3 =>
      bif (!(r3.1.headD .undef).pv.toBool) then
        some ([.p (.agg [.int .u8 0, .int .u8 0, .int .u8 0]), .p (.int .i64 3)], [])
      else
        (C 23 [.p (.list true [.int .i64, .int .i64, .int .i64, .int .u8, .int .u8, .int .u8] p_5)] []).bind fun r4 =>
        (C 40 [.yld, .p (.ref [.list true [.int .i64, .int .i64, .int .i64, .int .u8, .int .u8, .int .u8] ((((r4.1.headD .undef).pv.cap 0).rcell 0).toList)])] [.log true []]).bind fun r5 =>
        L tab C 11 [] [.rg [1, 0, 1, 1, 1, 1, 0, 1, 0] [(false, [.int .i64]), (true, [.int .i64, .int .i64, .int .i64, .int .u8, .int .u8, .int .u8])] (logOf r5.2)] (S11_101111010 ((((r4.1.headD .undef).pv.cap 0).rcell 0).toList) x y 0 0 0 p_2 p_3 p_4) := by kernel_rfl
theorem e11_101111010_nil (C : CallF) (t34_c0_r0 : List PV) (x_b0 : Int) (y_b0 : Int) (b6_b0 : Int) (b6_b1 : Int) (b6_b2 : Int) (c_b0 : Int) (c_b1 : Int) (c_b2 : Int) : L tab C 11 [] [.rg [1, 0, 1, 1, 1, 1, 0, 1, 0] [(false, [.int .i64]), (true, [.int .i64, .int .i64, .int .i64, .int .u8, .int .u8, .int .u8])] []] (S11_101111010 t34_c0_r0 x_b0 y_b0 b6_b0 b6_b1 b6_b2 c_b0 c_b1 c_b2) =
  some ([.p (.agg [.int .u8 c_b0, .int .u8 c_b1, .int .u8 c_b2]), .p (.int .i64 0)], []) := by kernel_rfl
theorem e11_101111010_cons (C : CallF) (t34_c0_r0 : List PV) (x_b0 : Int) (y_b0 : Int) (b6_b0 : Int) (b6_b1 : Int) (b6_b2 : Int) (c_b0 : Int) (c_b1 : Int) (c_b2 : Int) (y0 : Int) (y1_0 : Int) (y1_1 : Int) (y1_2 : Int) (y1_3 : Int) (y1_4 : Int) (y1_5 : Int) (ys : List PV) : L tab C 11 [] [.rg [1, 0, 1, 1, 1, 1, 0, 1, 0] [(false, [.int .i64]), (true, [.int .i64, .int .i64, .int .i64, .int .u8, .int .u8, .int .u8])] (.agg [.int .i64 y0, .agg [.int .i64 y1_0, .int .i64 y1_1, .int .i64 y1_2, .int .u8 y1_3, .int .u8 y1_4, .int .u8 y1_5]] :: ys)] (S11_101111010 t34_c0_r0 x_b0 y_b0 b6_b0 b6_b1 b6_b2 c_b0 c_b1 c_b2) =
  (C 24 [.p (.agg [.int .i64 y1_0, .int .i64 y1_1, .int .i64 y1_2, .int .u8 y1_3, .int .u8 y1_4, .int .u8 y1_5]), .p (.int .i64 x_b0), .p (.int .i64 y_b0), .p (.int .i64 1), .p (.int .i64 1)] []).bind fun r1 =>
  bif (r1.1.headD .undef).pv.toBool then
    some ([.p (.agg [.int .u8 y1_3, .int .u8 y1_4, .int .u8 y1_5]), .p (.int .i64 0)], [])
  else
    L tab C 11 [] [.rg [1, 0, 1, 1, 1, 1, 0, 1, 0] [(false, [.int .i64]), (true, [.int .i64, .int .i64, .int .i64, .int .u8, .int .u8, .int .u8])] ys] (S11_101111010 t34_c0_r0 x_b0 y_b0 b6_b0 b6_b1 b6_b2 c_b0 c_b1 c_b2) := by kernel_rfl
theorem e12 (C : CallF) (p_0 : Int) (p_1 : Int) (p_2 : Int) (p_3 : Int) (p_4 : Int) (p_5 : List PV) (x : Int) (y : Int) (want_0 : Int) (want_1 : Int) (want_2 : Int) : acallI tab C 12 [.p (.agg [.int .i64 p_0, .int .i64 p_1, .int .u8 p_2, .int .u8 p_3, .int .u8 p_4, .list true [.int .i64, .int .i64, .int .i64, .int .u8, .int .u8, .int .u8] p_5]), .p (.int .i64 x), .p (.int .i64 y), .p (.agg [.int .u8 want_0, .int .u8 want_1, .int .u8 want_2])] [] =
  (C 11 [.p (.agg [.int .i64 p_0, .int .i64 p_1, .int .u8 p_2, .int .u8 p_3, .int .u8 p_4, .list true [.int .i64, .int .i64, .int .i64, .int .u8, .int .u8, .int .u8] p_5]), .p (.int .i64 x), .p (.int .i64 y)] []).bind fun r1 =>
  bif ((r1.1.tail.headD .undef).pv.toInt == (0 : Int)) then
    some ([.p (.bool ((((r1.1.headD .undef).pv.cell 0).toInt == want_0) && ((((r1.1.headD .undef).pv.cell 1).toInt == want_1) && ((((r1.1.headD .undef).pv.cell 2).toInt == want_2) && true))))], [])
  else
    some ([.p (.bool false)], []) := by kernel_rfl
def S13_1111010 (x' : Int) (y' : Int) (width' : Int) (height' : Int) (t60' : List PV) (t61' : Int) (t62' : Int) (b10_b0 : Int) (b10_b1 : Int) (b10_b2 : Int) (b10_b3 : Int) (b10_b4 : Int) (out_b0 : Int) (out_b1 : Int) (out_b2 : Int) (out_b3 : Int) (out_b4 : Int) : St := ⟨.undef :: (.p (.int .i64 x')) :: (.p (.int .i64 y')) :: (.p (.int .i64 width')) :: (.p (.int .i64 height')) :: .undef :: .undef :: .undef :: .undef :: .undef :: (.ptr 10 0 0) :: .undef :: (.ptr 12 0 0) :: .undef :: .undef :: .undef :: .undef :: .undef :: .undef :: .undef :: .undef :: .undef :: .undef :: .undef :: .undef :: .undef :: .undef :: .undef :: .undef :: .undef :: .undef :: .undef :: .undef :: .undef :: .undef :: .undef :: .undef :: .undef :: .undef :: .undef :: .undef :: .undef :: .undef :: .undef :: .undef :: .undef :: .undef :: .undef :: .undef :: .undef :: .undef :: .undef :: .undef :: .undef :: .undef :: .undef :: .undef :: .undef :: .undef :: .undef :: (.p (.list true [.int .i64, .int .i64, .int .i64, .int .u8, .int .u8, .int .u8] t60')) :: (.p (.int .i64 t61')) :: (.p (.int .i64 t62')) :: List.replicate 27 .undef, [(10, .box [.p (.int .i64 b10_b0), .p (.int .i64 b10_b1), .p (.int .u8 b10_b2), .p (.int .u8 b10_b3), .p (.int .u8 b10_b4), .p (.nil)]), (12, .box [.p (.int .i64 out_b0), .p (.int .i64 out_b1), .p (.int .u8 out_b2), .p (.int .u8 out_b3), .p (.int .u8 out_b4), .p (.nil)])]⟩
def S13_1111010_s1 (x' : Int) (y' : Int) (width' : Int) (height' : Int) (t60' : List PV) (t61' : Int) (t62' : Int) (b10_b0 : Int) (b10_b1 : Int) (b10_b2 : Int) (b10_b3 : Int) (b10_b4 : Int) (out_b0 : Int) (out_b1 : Int) (out_b2 : Int) (out_b3 : Int) (out_b4 : Int) (out_b5_o : Nat) (out_b5_l : Nat) (b86_b : List PV) : St := ⟨.undef :: (.p (.int .i64 x')) :: (.p (.int .i64 y')) :: (.p (.int .i64 width')) :: (.p (.int .i64 height')) :: .undef :: .undef :: .undef :: .undef :: .undef :: (.ptr 10 0 0) :: .undef :: (.ptr 12 0 0) :: .undef :: .undef :: .undef :: .undef :: .undef :: .undef :: .undef :: .undef :: .undef :: .undef :: .undef :: .undef :: .undef :: .undef :: .undef :: .undef :: .undef :: .undef :: .undef :: .undef :: .undef :: .undef :: .undef :: .undef :: .undef :: .undef :: .undef :: .undef :: .undef :: .undef :: .undef :: .undef :: .undef :: .undef :: .undef :: .undef :: .undef :: .undef :: .undef :: .undef :: .undef :: .undef :: .undef :: .undef :: .undef :: .undef :: .undef :: (.p (.list true [.int .i64, .int .i64, .int .i64, .int .u8, .int .u8, .int .u8] t60')) :: (.p (.int .i64 t61')) :: (.p (.int .i64 t62')) :: List.replicate 27 .undef, [(10, .box [.p (.int .i64 b10_b0), .p (.int .i64 b10_b1), .p (.int .u8 b10_b2), .p (.int .u8 b10_b3), .p (.int .u8 b10_b4), .p (.nil)]), (12, .box [.p (.int .i64 out_b0), .p (.int .i64 out_b1), .p (.int .u8 out_b2), .p (.int .u8 out_b3), .p (.int .u8 out_b4), .slice 86 6 out_b5_o out_b5_l]), (86, .arr true [.int .i64, .int .i64, .int .i64, .int .u8, .int .u8, .int .u8] b86_b)]⟩
theorem e13 (C : CallF) (p_0 : Int) (p_1 : Int) (p_2 : Int) (p_3 : Int) (p_4 : Int) (p_5 : List PV) (x : Int) (y : Int) (width : Int) (height : Int) : acallI tab C 13 [.p (.agg [.int .i64 p_0, .int .i64 p_1, .int .u8 p_2, .int .u8 p_3, .int .u8 p_4, .list true [.int .i64, .int .i64, .int .i64, .int .u8, .int .u8, .int .u8] p_5]), .p (.int .i64 x), .p (.int .i64 y), .p (.int .i64 width), .p (.int .i64 height)] [] =
  (C 18 [.p (.agg [.int .i64 p_0, .int .i64 p_1, .int .u8 p_2, .int .u8 p_3, .int .u8 p_4, .list true [.int .i64, .int .i64, .int .i64, .int .u8, .int .u8, .int .u8] p_5])] []).bind fun r1 =>
  bif (!(r1.1.headD .undef).pv.toBool) then
    some ([.p (.agg [.int .i64 0, .int .i64 0, .int .u8 0, .int .u8 0, .int .u8 0, .nil]), .p (.int .i64 2)], [])
  else
    bif (ltI (goMin width height) (1 : Int)) then
      some ([.p (.agg [.int .i64 0, .int .i64 0, .int .u8 0, .int .u8 0, .int .u8 0, .nil]), .p (.int .i64 2)], [])
    else
      (C 22 [.p (.int .i64 x), .p (.int .i64 0), .p (.int .i64 p_0)] []).bind fun r2 =>
      bif (!(r2.1.headD .undef).pv.toBool) then
        some ([.p (.agg [.int .i64 0, .int .i64 0, .int .u8 0, .int .u8 0, .int .u8 0, .nil]), .p (.int .i64 3)], [])
      else
        (C 22 [.p (.int .i64 y), .p (.int .i64 0), .p (.int .i64 p_1)] []).bind fun r3 =>
        bif (!(r3.1.headD .undef).pv.toBool) then
          some ([.p (.agg [.int .i64 0, .int .i64 0, .int .u8 0, .int .u8 0, .int .u8 0, .nil]), .p (.int .i64 3)], [])
        else
          bif (gtI width (IntKind.i64.wrap (p_0 - x))) then
            some ([.p (.agg [.int .i64 0, .int .i64 0, .int .u8 0, .int .u8 0, .int .u8 0, .nil]), .p (.int .i64 3)], [])
          else
            bif (gtI height (IntKind.i64.wrap (p_1 - y))) then
              some ([.p (.agg [.int .i64 0, .int .i64 0, .int .u8 0, .int .u8 0, .int .u8 0, .nil]), .p (.int .i64 3)], [])
            else
              L tab C 13 [] [.lp [1, 1, 1, 1, 0, 1, 0]] (S13_1111010 x y width height p_5 ((p_5.length : Nat) : Int) 0 0 0 0 0 0 width height p_2 p_3 p_4) := by kernel_rfl
theorem e13_1111010 (C : CallF) (x' : Int) (y' : Int) (width' : Int) (height' : Int) (t60' : List PV) (t61' : Int) (t62' : Int) (b10_b0 : Int) (b10_b1 : Int) (b10_b2 : Int) (b10_b3 : Int) (b10_b4 : Int) (out_b0 : Int) (out_b1 : Int) (out_b2 : Int) (out_b3 : Int) (out_b4 : Int) : R tab C 13 [] [.lp [1, 1, 1, 1, 0, 1, 0]] (S13_1111010 x' y' width' height' t60' t61' t62' b10_b0 b10_b1 b10_b2 b10_b3 b10_b4 out_b0 out_b1 out_b2 out_b3 out_b4) =
  bif (ltI t62' t61') then
    bif ((leI (0 : Int) t62') && (ltI t62' ((t60'.length : Nat) : Int))) then (C 24 [.p (.agg [.int .i64 (((t60'.getD t62'.toNat .nil).cell 0).toInt), .int .i64 (((t60'.getD t62'.toNat .nil).cell 1).toInt), .int .i64 (((t60'.getD t62'.toNat .nil).cell 2).toInt), .int .u8 (((t60'.getD t62'.toNat .nil).cell 3).toInt), .int .u8 (((t60'.getD t62'.toNat .nil).cell 4).toInt), .int .u8 (((t60'.getD t62'.toNat .nil).cell 5).toInt)]), .p (.int .i64 x'), .p (.int .i64 y'), .p (.int .i64 width'), .p (.int .i64 height')] []).bind fun r1 =>
    bif (r1.1.headD .undef).pv.toBool then
      L tab C 13 [] [.lp [1, 1, 1, 1, 0, 1, 0]] (S13_1111010_s1 x' y' width' height' t60' t61' (IntKind.i64.wrap (t62' + (1 : Int))) b10_b0 b10_b1 b10_b2 b10_b3 b10_b4 out_b0 out_b1 out_b2 out_b3 out_b4 0 1 [.agg [.int .i64 (IntKind.i64.wrap (((t60'.getD t62'.toNat .nil).cell 0).toInt - x')), .int .i64 (IntKind.i64.wrap (((t60'.getD t62'.toNat .nil).cell 1).toInt - y')), .int .i64 (((t60'.getD t62'.toNat .nil).cell 2).toInt), .int .u8 (((t60'.getD t62'.toNat .nil).cell 3).toInt), .int .u8 (((t60'.getD t62'.toNat .nil).cell 4).toInt), .int .u8 (((t60'.getD t62'.toNat .nil).cell 5).toInt)]])
    else
      L tab C 13 [] [.lp [1, 1, 1, 1, 0, 1, 0]] (S13_1111010 x' y' width' height' t60' t61' (IntKind.i64.wrap (t62' + (1 : Int))) b10_b0 b10_b1 b10_b2 b10_b3 b10_b4 out_b0 out_b1 out_b2 out_b3 out_b4) else none
  else
    some ([.p (.agg [.int .i64 out_b0, .int .i64 out_b1, .int .u8 out_b2, .int .u8 out_b3, .int .u8 out_b4, .nil]), .p (.int .i64 0)], []) := by kernel_rfl
theorem e13_1111010_s1 (C : CallF) (x' : Int) (y' : Int) (width' : Int) (height' : Int) (t60' : List PV) (t61' : Int) (t62' : Int) (b10_b0 : Int) (b10_b1 : Int) (b10_b2 : Int) (b10_b3 : Int) (b10_b4 : Int) (out_b0 : Int) (out_b1 : Int) (out_b2 : Int) (out_b3 : Int) (out_b4 : Int) (out_b5_o : Nat) (out_b5_l : Nat) (b86_b : List PV) : R tab C 13 [] [.lp [1, 1, 1, 1, 0, 1, 0]] (S13_1111010_s1 x' y' width' height' t60' t61' t62' b10_b0 b10_b1 b10_b2 b10_b3 b10_b4 out_b0 out_b1 out_b2 out_b3 out_b4 out_b5_o out_b5_l b86_b) =
  bif (ltI t62' t61') then
    bif ((leI (0 : Int) t62') && (ltI t62' ((t60'.length : Nat) : Int))) then (C 24 [.p (.agg [.int .i64 (((t60'.getD t62'.toNat .nil).cell 0).toInt), .int .i64 (((t60'.getD t62'.toNat .nil).cell 1).toInt), .int .i64 (((t60'.getD t62'.toNat .nil).cell 2).toInt), .int .u8 (((t60'.getD t62'.toNat .nil).cell 3).toInt), .int .u8 (((t60'.getD t62'.toNat .nil).cell 4).toInt), .int .u8 (((t60'.getD t62'.toNat .nil).cell 5).toInt)]), .p (.int .i64 x'), .p (.int .i64 y'), .p (.int .i64 width'), .p (.int .i64 height')] []).bind fun r1 =>
    bif (r1.1.headD .undef).pv.toBool then
      bif (leN (out_b5_l + 1) 2147483648) then L tab C 13 [] [.lp [1, 1, 1, 1, 0, 1, 0]] (S13_1111010_s1 x' y' width' height' t60' t61' (IntKind.i64.wrap (t62' + (1 : Int))) b10_b0 b10_b1 b10_b2 b10_b3 b10_b4 out_b0 out_b1 out_b2 out_b3 out_b4 0 (out_b5_l + 1) (((b86_b.drop out_b5_o).take out_b5_l) ++ ([.agg [.int .i64 (IntKind.i64.wrap (((t60'.getD t62'.toNat .nil).cell 0).toInt - x')), .int .i64 (IntKind.i64.wrap (((t60'.getD t62'.toNat .nil).cell 1).toInt - y')), .int .i64 (((t60'.getD t62'.toNat .nil).cell 2).toInt), .int .u8 (((t60'.getD t62'.toNat .nil).cell 3).toInt), .int .u8 (((t60'.getD t62'.toNat .nil).cell 4).toInt), .int .u8 (((t60'.getD t62'.toNat .nil).cell 5).toInt)]] : List PV))) else none
    else
      L tab C 13 [] [.lp [1, 1, 1, 1, 0, 1, 0]] (S13_1111010_s1 x' y' width' height' t60' t61' (IntKind.i64.wrap (t62' + (1 : Int))) b10_b0 b10_b1 b10_b2 b10_b3 b10_b4 out_b0 out_b1 out_b2 out_b3 out_b4 out_b5_o out_b5_l b86_b) else none
  else
    some ([.p (.agg [.int .i64 out_b0, .int .i64 out_b1, .int .u8 out_b2, .int .u8 out_b3, .int .u8 out_b4, .list true [.int .i64, .int .i64, .int .i64, .int .u8, .int .u8, .int .u8] ((b86_b.drop out_b5_o).take out_b5_l)]), .p (.int .i64 0)], []) := by kernel_rfl
theorem e14 (C : CallF) (a_0 : Int) (a_1 : Int) (a_2 : Int) (a_3 : Int) (a_4 : Int) (a_5 : List PV) (b_0 : Int) (b_1 : Int) (b_2 : Int) (b_3 : Int) (b_4 : Int) (b_5 : List PV) : acallI tab C 14 [.p (.agg [.int .i64 a_0, .int .i64 a_1, .int .u8 a_2, .int .u8 a_3, .int .u8 a_4, .list true [.int .i64, .int .i64, .int .i64, .int .u8, .int .u8, .int .u8] a_5]), .p (.agg [.int .i64 b_0, .int .i64 b_1, .int .u8 b_2, .int .u8 b_3, .int .u8 b_4, .list true [.int .i64, .int .i64, .int .i64, .int .u8, .int .u8, .int .u8] b_5])] [] =
  (C 18 [.p (.agg [.int .i64 a_0, .int .i64 a_1, .int .u8 a_2, .int .u8 a_3, .int .u8 a_4, .list true [.int .i64, .int .i64, .int .i64, .int .u8, .int .u8, .int .u8] a_5])] []).bind fun r1 =>
  bif (!(r1.1.headD .undef).pv.toBool) then
    some ([.agg [.p (.int .i64 0), .p (.int .i64 0), .p (.int .u8 0), .p (.int .u8 0), .p (.int .u8 0), .fresh true [.int .i64, .int .i64, .int .i64, .int .u8, .int .u8, .int .u8] []], .p (.int .i64 2)], [])
  else
    (C 18 [.p (.agg [.int .i64 b_0, .int .i64 b_1, .int .u8 b_2, .int .u8 b_3, .int .u8 b_4, .list true [.int .i64, .int .i64, .int .i64, .int .u8, .int .u8, .int .u8] b_5])] []).bind fun r2 =>
    bif (!(r2.1.headD .undef).pv.toBool) then
      some ([.agg [.p (.int .i64 0), .p (.int .i64 0), .p (.int .u8 0), .p (.int .u8 0), .p (.int .u8 0), .fresh true [.int .i64, .int .i64, .int .i64, .int .u8, .int .u8, .int .u8] []], .p (.int .i64 2)], [])
    else
      bif (a_0 != b_0) then
        some ([.agg [.p (.int .i64 0), .p (.int .i64 0), .p (.int .u8 0), .p (.int .u8 0), .p (.int .u8 0), .fresh true [.int .i64, .int .i64, .int .i64, .int .u8, .int .u8, .int .u8] []], .p (.int .i64 10)], [])
      else
        bif (a_1 != b_1) then
          some ([.agg [.p (.int .i64 0), .p (.int .i64 0), .p (.int .u8 0), .p (.int .u8 0), .p (.int .u8 0), .fresh true [.int .i64, .int .i64, .int .i64, .int .u8, .int .u8, .int .u8] []], .p (.int .i64 10)], [])
        else
          bif (gtI (IntKind.i64.wrap (((a_5.length : Nat) : Int) + ((b_5.length : Nat) : Int))) (4096 : Int)) then
            some ([.agg [.p (.int .i64 0), .p (.int .i64 0), .p (.int .u8 0), .p (.int .u8 0), .p (.int .u8 0), .fresh true [.int .i64, .int .i64, .int .i64, .int .u8, .int .u8, .int .u8] []], .p (.int .i64 7)], [])
          else
            (C 25 [.p (.list false [.slice true [.int .i64, .int .i64, .int .i64, .int .u8, .int .u8, .int .u8]] [.list true [.int .i64, .int .i64, .int .i64, .int .u8, .int .u8, .int .u8] a_5, .list true [.int .i64, .int .i64, .int .i64, .int .u8, .int .u8, .int .u8] b_5])] []).bind fun r3 =>
            some ([.agg [.p (.int .i64 a_0), .p (.int .i64 a_1), .p (.int .u8 a_2), .p (.int .u8 a_3), .p (.int .u8 a_4), .fresh true [.int .i64, .int .i64, .int .i64, .int .u8, .int .u8, .int .u8] ((((r3.1.headD .undef).freshList).drop 0).take ((r3.1.headD .undef).freshList.length))], .p (.int .i64 0)], []) := by kernel_rfl
def S15_11111100 (rest' : ByteArray) (more' : Bool) (b2_b0 : Int) (b2_b1 : Int) (b2_b2 : Int) (b2_b3 : Int) (b2_b4 : Int) (p_b0 : Int) (p_b1 : Int) (p_b2 : Int) (p_b3 : Int) (p_b4 : Int) : St := ⟨.undef :: .undef :: (.ptr 2 0 0) :: .undef :: .undef :: .undef :: .undef :: (.p (.str rest')) :: (.p (.bool more')) :: .undef :: .undef :: .undef :: (.ptr 12 0 0) :: List.replicate 78 .undef, [(2, .box [.p (.int .i64 b2_b0), .p (.int .i64 b2_b1), .p (.int .u8 b2_b2), .p (.int .u8 b2_b3), .p (.int .u8 b2_b4), .p (.nil)]), (12, .box [.p (.int .i64 p_b0), .p (.int .i64 p_b1), .p (.int .u8 p_b2), .p (.int .u8 p_b3), .p (.int .u8 p_b4), .p (.nil)])]⟩
theorem e15 (C : CallF) (s : ByteArray) : acallI tab C 15 [.p (.str s)] [] =
  (C 26 [.p (.str s), .p (.str ⟨#[10]⟩)] []).bind fun r1 =>
  (C 27 [.p (.str ((r1.1.headD .undef).pv.toStr)), .p (.str ⟨#[10]⟩)] []).bind fun r2 =>
  (C 28 [.p (.str ((r2.1.headD .undef).pv.toStr)), .p (.str ⟨#[112, 105, 99, 116, 117, 114, 101]⟩), .p (.int .i64 2)] []).bind fun r3 =>
  bif (!(r1.1.tail.headD .undef).pv.toBool) then
    some ([.p (.agg [.int .i64 0, .int .i64 0, .int .u8 0, .int .u8 0, .int .u8 0, .nil]), .p (.int .i64 6)], [])
  else
    bif (!(r3.1.tail.tail.headD .undef).pv.toBool) then
      some ([.p (.agg [.int .i64 0, .int .i64 0, .int .u8 0, .int .u8 0, .int .u8 0, .nil]), .p (.int .i64 6)], [])
    else
      bif (ltI (0 : Int) (((r3.1.headD .undef).freshList.length : Nat) : Int)) then bif (ltI (1 : Int) (((r3.1.headD .undef).freshList.length : Nat) : Int)) then L tab C 15 [] [.lp [1, 1, 1, 1, 1, 1, 0, 0]] (S15_11111100 ((r2.1.tail.headD .undef).pv.toStr) ((r2.1.tail.tail.headD .undef).pv.toBool) 0 0 0 0 0 (((((r3.1.headD .undef).freshList).getD 0 .nil).cell 0).toInt) (((((r3.1.headD .undef).freshList).getD 1 .nil).cell 0).toInt) (((r3.1.tail.headD .undef).pv.cell 0).toInt) (((r3.1.tail.headD .undef).pv.cell 1).toInt) (((r3.1.tail.headD .undef).pv.cell 2).toInt)) else none else none := by kernel_rfl
def S16_111010 (radius' : Int) (out_o : Nat) (out_l : Nat) (t18' : List PV) (t19' : Int) (t20' : Int) (c_b0 : Int) (c_b1 : Int) (c_b2 : Int) (c_b3 : Int) (c_b4 : Int) (c_b5 : Int) (c_b6 : Int) (c_b7 : Int) (c_b8 : Int) (c_b9 : Int) (c_b10 : Int) (c_b11 : Int) (c_b12 : Int) (c_b13 : Int) (c_b14 : Int) (c_b15 : Int) (out_b : List PV) : St := ⟨.undef :: .undef :: (.p (.int .i64 radius')) :: (.ptr 3 0 0) :: .undef :: .undef :: .undef :: .undef :: (.slice 8 5 out_o out_l) :: .undef :: .undef :: .undef :: .undef :: .undef :: .undef :: .undef :: .undef :: .undef :: (.p (.list true [.int .i64, .int .i64, .int .i64] t18')) :: (.p (.int .i64 t19')) :: (.p (.int .i64 t20')) :: List.replicate 22 .undef, [(3, .box [.p (.int .i64 c_b0), .p (.int .i64 c_b1), .p (.int .i64 c_b2), .p (.int .i64 c_b3), .p (.int .i64 c_b4), .p (.int .i64 c_b5), .p (.int .i64 c_b6), .p (.int .i64 c_b7), .p (.int .i64 c_b8), .p (.int .i64 c_b9), .p (.int .i64 c_b10), .p (.int .i64 c_b11), .p (.int .i64 c_b12), .p (.int .i64 c_b13), .p (.int .i64 c_b14), .p (.int .i64 c_b15)]), (8, .arr true [.int .i64, .int .i64, .int .i64, .int .i64, .int .i64] out_b)]⟩
theorem e16 (C : CallF) (c_0 : Int) (c_1 : Int) (c_2 : Int) (c_3 : Int) (c_4 : Int) (c_5 : Int) (c_6 : Int) (c_7 : Int) (c_8 : Int) (c_9 : Int) (c_10 : Int) (c_11 : Int) (c_12 : Int) (c_13 : Int) (c_14 : Int) (c_15 : Int) (points : List PV) (radius : Int) : acallI tab C 16 [.p (.agg [.int .i64 c_0, .int .i64 c_1, .int .i64 c_2, .int .i64 c_3, .int .i64 c_4, .int .i64 c_5, .int .i64 c_6, .int .i64 c_7, .int .i64 c_8, .int .i64 c_9, .int .i64 c_10, .int .i64 c_11, .int .i64 c_12, .int .i64 c_13, .int .i64 c_14, .int .i64 c_15]), .p (.list true [.int .i64, .int .i64, .int .i64] points), .p (.int .i64 radius)] [] =
  (C 29 [.p (.agg [.int .i64 c_0, .int .i64 c_1, .int .i64 c_2, .int .i64 c_3, .int .i64 c_4, .int .i64 c_5, .int .i64 c_6, .int .i64 c_7, .int .i64 c_8, .int .i64 c_9, .int .i64 c_10, .int .i64 c_11, .int .i64 c_12, .int .i64 c_13, .int .i64 c_14, .int .i64 c_15]), .p (.int .i64 radius), .p (.list true [.int .i64, .int .i64, .int .i64] points)] []).bind fun r1 =>
  bif (!(r1.1.headD .undef).pv.toBool) then
    some ([.fresh true [.int .i64, .int .i64, .int .i64, .int .i64, .int .i64] [], .p (.int .i64 2)], [])
  else
    L tab C 16 [] [.lp [1, 1, 1, 0, 1, 0]] (S16_111010 radius 0 0 points ((points.length : Nat) : Int) 0 c_0 c_1 c_2 c_3 c_4 c_5 c_6 c_7 c_8 c_9 c_10 c_11 c_12 c_13 c_14 c_15 []) := by kernel_rfl
theorem e16_111010 (C : CallF) (radius' : Int) (out_o : Nat) (out_l : Nat) (t18' : List PV) (t19' : Int) (t20' : Int) (c_b0 : Int) (c_b1 : Int) (c_b2 : Int) (c_b3 : Int) (c_b4 : Int) (c_b5 : Int) (c_b6 : Int) (c_b7 : Int) (c_b8 : Int) (c_b9 : Int) (c_b10 : Int) (c_b11 : Int) (c_b12 : Int) (c_b13 : Int) (c_b14 : Int) (c_b15 : Int) (out_b : List PV) : R tab C 16 [] [.lp [1, 1, 1, 0, 1, 0]] (S16_111010 radius' out_o out_l t18' t19' t20' c_b0 c_b1 c_b2 c_b3 c_b4 c_b5 c_b6 c_b7 c_b8 c_b9 c_b10 c_b11 c_b12 c_b13 c_b14 c_b15 out_b) =
  bif (ltI t20' t19') then
    bif ((leI (0 : Int) t20') && (ltI t20' ((t18'.length : Nat) : Int))) then (C 30 [.p (.agg [.int .i64 c_b0, .int .i64 c_b1, .int .i64 c_b2, .int .i64 c_b3, .int .i64 c_b4, .int .i64 c_b5, .int .i64 c_b6, .int .i64 c_b7, .int .i64 c_b8, .int .i64 c_b9, .int .i64 c_b10, .int .i64 c_b11, .int .i64 c_b12, .int .i64 c_b13, .int .i64 c_b14, .int .i64 c_b15]), .p (.agg [.int .i64 (((t18'.getD t20'.toNat .nil).cell 0).toInt), .int .i64 (((t18'.getD t20'.toNat .nil).cell 1).toInt), .int .i64 (((t18'.getD t20'.toNat .nil).cell 2).toInt)]), .p (.int .i64 radius')] []).bind fun r1 =>
    bif (r1.1.tail.headD .undef).pv.toBool then
      bif (leN (out_l + 1) 2147483648) then L tab C 16 [] [.lp [1, 1, 1, 0, 1, 0]] (S16_111010 radius' 0 (out_l + 1) t18' t19' (IntKind.i64.wrap (t20' + (1 : Int))) c_b0 c_b1 c_b2 c_b3 c_b4 c_b5 c_b6 c_b7 c_b8 c_b9 c_b10 c_b11 c_b12 c_b13 c_b14 c_b15 (((out_b.drop out_o).take out_l) ++ ([.agg [.int .i64 t20', .int .i64 (((r1.1.headD .undef).pv.cell 1).toInt), .int .i64 (((r1.1.headD .undef).pv.cell 2).toInt), .int .i64 (((r1.1.headD .undef).pv.cell 3).toInt), .int .i64 (((r1.1.headD .undef).pv.cell 4).toInt)]] : List PV))) else none
    else
      L tab C 16 [] [.lp [1, 1, 1, 0, 1, 0]] (S16_111010 radius' out_o out_l t18' t19' (IntKind.i64.wrap (t20' + (1 : Int))) c_b0 c_b1 c_b2 c_b3 c_b4 c_b5 c_b6 c_b7 c_b8 c_b9 c_b10 c_b11 c_b12 c_b13 c_b14 c_b15 out_b) else none
  else
    (C 31 [.slice 100000 5 out_o out_l, .p (.fn 32 [])] [.arr true [.int .i64, .int .i64, .int .i64, .int .i64, .int .i64] out_b]).bind fun r2 =>
    some ([.fresh true [.int .i64, .int .i64, .int .i64, .int .i64, .int .i64] ((((r2.2.headD (.box [])).xs).drop out_o).take out_l), .p (.int .i64 0)], []) := by kernel_rfl
def S17_111010 (l' : List PV) (radius' : Int) (out_o : Nat) (out_l : Nat) (i' : Int) (c_b0 : Int) (c_b1 : Int) (c_b2 : Int) (c_b3 : Int) (c_b4 : Int) (c_b5 : Int) (c_b6 : Int) (c_b7 : Int) (c_b8 : Int) (c_b9 : Int) (c_b10 : Int) (c_b11 : Int) (c_b12 : Int) (c_b13 : Int) (c_b14 : Int) (c_b15 : Int) (out_b : List PV) : St := ⟨.undef :: (.p (.list true [.int .i64, .int .i64, .int .i64] l')) :: (.p (.int .i64 radius')) :: (.ptr 3 0 0) :: .undef :: .undef :: .undef :: .undef :: (.slice 8 5 out_o out_l) :: (.p (.int .i64 i')) :: List.replicate 60 .undef, [(3, .box [.p (.int .i64 c_b0), .p (.int .i64 c_b1), .p (.int .i64 c_b2), .p (.int .i64 c_b3), .p (.int .i64 c_b4), .p (.int .i64 c_b5), .p (.int .i64 c_b6), .p (.int .i64 c_b7), .p (.int .i64 c_b8), .p (.int .i64 c_b9), .p (.int .i64 c_b10), .p (.int .i64 c_b11), .p (.int .i64 c_b12), .p (.int .i64 c_b13), .p (.int .i64 c_b14), .p (.int .i64 c_b15)]), (8, .arr true [.int .i64, .int .i64, .int .i64, .int .i64, .int .i64] out_b)]⟩
def S17_111010_100111100 (l' : List PV) (radius' : Int) (out_o : Nat) (out_l : Nat) (i' : Int) (at_' : Int) (c_b0 : Int) (c_b1 : Int) (c_b2 : Int) (c_b3 : Int) (c_b4 : Int) (c_b5 : Int) (c_b6 : Int) (c_b7 : Int) (c_b8 : Int) (c_b9 : Int) (c_b10 : Int) (c_b11 : Int) (c_b12 : Int) (c_b13 : Int) (c_b14 : Int) (c_b15 : Int) (out_b : List PV) (s_b0 : Int) (s_b1 : Int) (s_b2 : Int) (s_b3 : Int) (s_b4 : Int) : St := ⟨.undef :: (.p (.list true [.int .i64, .int .i64, .int .i64] l')) :: (.p (.int .i64 radius')) :: (.ptr 3 0 0) :: .undef :: .undef :: .undef :: .undef :: (.slice 8 5 out_o out_l) :: (.p (.int .i64 i')) :: (.ptr 10 0 0) :: .undef :: (.p (.int .i64 at_')) :: List.replicate 57 .undef, [(3, .box [.p (.int .i64 c_b0), .p (.int .i64 c_b1), .p (.int .i64 c_b2), .p (.int .i64 c_b3), .p (.int .i64 c_b4), .p (.int .i64 c_b5), .p (.int .i64 c_b6), .p (.int .i64 c_b7), .p (.int .i64 c_b8), .p (.int .i64 c_b9), .p (.int .i64 c_b10), .p (.int .i64 c_b11), .p (.int .i64 c_b12), .p (.int .i64 c_b13), .p (.int .i64 c_b14), .p (.int .i64 c_b15)]), (8, .arr true [.int .i64, .int .i64, .int .i64, .int .i64, .int .i64] out_b), (10, .box [.p (.int .i64 s_b0), .p (.int .i64 s_b1), .p (.int .i64 s_b2), .p (.int .i64 s_b3), .p (.int .i64 s_b4)])]⟩
theorem e17 (C : CallF) (c_0 : Int) (c_1 : Int) (c_2 : Int) (c_3 : Int) (c_4 : Int) (c_5 : Int) (c_6 : Int) (c_7 : Int) (c_8 : Int) (c_9 : Int) (c_10 : Int) (c_11 : Int) (c_12 : Int) (c_13 : Int) (c_14 : Int) (c_15 : Int) (l : List PV) (radius : Int) : acallI tab C 17 [.p (.agg [.int .i64 c_0, .int .i64 c_1, .int .i64 c_2, .int .i64 c_3, .int .i64 c_4, .int .i64 c_5, .int .i64 c_6, .int .i64 c_7, .int .i64 c_8, .int .i64 c_9, .int .i64 c_10, .int .i64 c_11, .int .i64 c_12, .int .i64 c_13, .int .i64 c_14, .int .i64 c_15]), .p (.list true [.int .i64, .int .i64, .int .i64] l), .p (.int .i64 radius)] [] =
  (C 33 [.p (.agg [.int .i64 c_0, .int .i64 c_1, .int .i64 c_2, .int .i64 c_3, .int .i64 c_4, .int .i64 c_5, .int .i64 c_6, .int .i64 c_7, .int .i64 c_8, .int .i64 c_9, .int .i64 c_10, .int .i64 c_11, .int .i64 c_12, .int .i64 c_13, .int .i64 c_14, .int .i64 c_15]), .p (.list true [.int .i64, .int .i64, .int .i64] l), .p (.int .i64 radius)] []).bind fun r1 =>
  bif (!(r1.1.headD .undef).pv.toBool) then
    some ([.fresh true [.int .i64, .int .i64, .int .i64, .int .i64, .int .i64] [], .p (.int .i64 2)], [])
  else
    L tab C 17 [] [.lp [1, 1, 1, 0, 1, 0]] (S17_111010 l radius 0 0 0 c_0 c_1 c_2 c_3 c_4 c_5 c_6 c_7 c_8 c_9 c_10 c_11 c_12 c_13 c_14 c_15 []) := by kernel_rfl
theorem e17_111010 (C : CallF) (l' : List PV) (radius' : Int) (out_o : Nat) (out_l : Nat) (i' : Int) (c_b0 : Int) (c_b1 : Int) (c_b2 : Int) (c_b3 : Int) (c_b4 : Int) (c_b5 : Int) (c_b6 : Int) (c_b7 : Int) (c_b8 : Int) (c_b9 : Int) (c_b10 : Int) (c_b11 : Int) (c_b12 : Int) (c_b13 : Int) (c_b14 : Int) (c_b15 : Int) (out_b : List PV) : R tab C 17 [] [.lp [1, 1, 1, 0, 1, 0]] (S17_111010 l' radius' out_o out_l i' c_b0 c_b1 c_b2 c_b3 c_b4 c_b5 c_b6 c_b7 c_b8 c_b9 c_b10 c_b11 c_b12 c_b13 c_b14 c_b15 out_b) =
  bif (ltI i' ((l'.length : Nat) : Int)) then
    bif ((leI (0 : Int) i') && (ltI i' ((l'.length : Nat) : Int))) then (C 34 [.p (.agg [.int .i64 c_b0, .int .i64 c_b1, .int .i64 c_b2, .int .i64 c_b3, .int .i64 c_b4, .int .i64 c_b5, .int .i64 c_b6, .int .i64 c_b7, .int .i64 c_b8, .int .i64 c_b9, .int .i64 c_b10, .int .i64 c_b11, .int .i64 c_b12, .int .i64 c_b13, .int .i64 c_b14, .int .i64 c_b15]), .p (.agg [.int .i64 (((l'.getD i'.toNat .nil).cell 0).toInt), .int .i64 (((l'.getD i'.toNat .nil).cell 1).toInt), .int .i64 (((l'.getD i'.toNat .nil).cell 2).toInt)]), .p (.int .i64 radius')] []).bind fun r1 =>
    bif (!(r1.1.tail.headD .undef).pv.toBool) then
      L tab C 17 [] [.lp [1, 1, 1, 0, 1, 0]] (S17_111010 l' radius' out_o out_l (IntKind.i64.wrap (i' + (1 : Int))) c_b0 c_b1 c_b2 c_b3 c_b4 c_b5 c_b6 c_b7 c_b8 c_b9 c_b10 c_b11 c_b12 c_b13 c_b14 c_b15 out_b)
    else
      L tab C 17 [] [.lp [1, 1, 1, 0, 1, 0], .lp [1, 0, 0, 1, 1, 1, 1, 0, 0]] (S17_111010_100111100 l' radius' out_o out_l i' (out_l : Int) c_b0 c_b1 c_b2 c_b3 c_b4 c_b5 c_b6 c_b7 c_b8 c_b9 c_b10 c_b11 c_b12 c_b13 c_b14 c_b15 out_b i' (((r1.1.headD .undef).pv.cell 1).toInt) (((r1.1.headD .undef).pv.cell 2).toInt) (((r1.1.headD .undef).pv.cell 3).toInt) (((r1.1.headD .undef).pv.cell 4).toInt)) else none
  else
    some ([.fresh true [.int .i64, .int .i64, .int .i64, .int .i64, .int .i64] ((out_b.drop out_o).take out_l), .p (.int .i64 0)], []) := by kernel_rfl
theorem e17_111010_100111100 (C : CallF) (l' : List PV) (radius' : Int) (out_o : Nat) (out_l : Nat) (i' : Int) (at_' : Int) (c_b0 : Int) (c_b1 : Int) (c_b2 : Int) (c_b3 : Int) (c_b4 : Int) (c_b5 : Int) (c_b6 : Int) (c_b7 : Int) (c_b8 : Int) (c_b9 : Int) (c_b10 : Int) (c_b11 : Int) (c_b12 : Int) (c_b13 : Int) (c_b14 : Int) (c_b15 : Int) (out_b : List PV) (s_b0 : Int) (s_b1 : Int) (s_b2 : Int) (s_b3 : Int) (s_b4 : Int) : R tab C 17 [] [.lp [1, 1, 1, 0, 1, 0], .lp [1, 0, 0, 1, 1, 1, 1, 0, 0]] (S17_111010_100111100 l' radius' out_o out_l i' at_' c_b0 c_b1 c_b2 c_b3 c_b4 c_b5 c_b6 c_b7 c_b8 c_b9 c_b10 c_b11 c_b12 c_b13 c_b14 c_b15 out_b s_b0 s_b1 s_b2 s_b3 s_b4) =
  bif (gtI at_' (0 : Int)) then
    bif ((leI (0 : Int) (IntKind.i64.wrap (at_' - (1 : Int)))) && (ltI (IntKind.i64.wrap (at_' - (1 : Int))) (out_l : Int))) then bif (ltI (((out_b.getD (out_o + (IntKind.i64.wrap (at_' - (1 : Int))).toNat) .nil).cell 4).toInt) s_b4) then
      L tab C 17 [] [.lp [1, 1, 1, 0, 1, 0], .lp [1, 0, 0, 1, 1, 1, 1, 0, 0]] (S17_111010_100111100 l' radius' out_o out_l i' (IntKind.i64.wrap (at_' - (1 : Int))) c_b0 c_b1 c_b2 c_b3 c_b4 c_b5 c_b6 c_b7 c_b8 c_b9 c_b10 c_b11 c_b12 c_b13 c_b14 c_b15 out_b s_b0 s_b1 s_b2 s_b3 s_b4)
    else
      bif ((leI (0 : Int) at_') && ((leI at_' (out_l : Int)) && (leI (out_l : Int) (out_l : Int)))) then bif (leN ((at_' - (0 : Int)).toNat) 2147483648) then bif (leN ((at_' - (0 : Int)).toNat + 1) 2147483648) then bif ((leI (0 : Int) at_') && ((leI at_' (out_l : Int)) && ((leI (out_l : Int) (out_l : Int)) && (leI (out_l : Int) (out_l : Int))))) then bif (leN (((at_' - (0 : Int)).toNat + 1) + ((out_l : Int) - at_').toNat) 2147483648) then L tab C 17 [] [.lp [1, 1, 1, 0, 1, 0]] (S17_111010 l' radius' 0 (((at_' - (0 : Int)).toNat + 1) + ((out_l : Int) - at_').toNat) (IntKind.i64.wrap (i' + (1 : Int))) c_b0 c_b1 c_b2 c_b3 c_b4 c_b5 c_b6 c_b7 c_b8 c_b9 c_b10 c_b11 c_b12 c_b13 c_b14 c_b15 ((((((((out_b.drop (out_o + 0)).take ((at_' - (0 : Int)).toNat)).drop 0).take ((at_' - (0 : Int)).toNat)) ++ ([.agg [.int .i64 s_b0, .int .i64 s_b1, .int .i64 s_b2, .int .i64 s_b3, .int .i64 s_b4]] : List PV)).drop 0).take ((at_' - (0 : Int)).toNat + 1)) ++ ((out_b.drop (out_o + at_'.toNat)).take (((out_l : Int) - at_').toNat)))) else none else none else none else none else none else none
  else
    bif ((leI (0 : Int) at_') && ((leI at_' (out_l : Int)) && (leI (out_l : Int) (out_l : Int)))) then bif (leN ((at_' - (0 : Int)).toNat) 2147483648) then bif (leN ((at_' - (0 : Int)).toNat + 1) 2147483648) then bif ((leI (0 : Int) at_') && ((leI at_' (out_l : Int)) && ((leI (out_l : Int) (out_l : Int)) && (leI (out_l : Int) (out_l : Int))))) then bif (leN (((at_' - (0 : Int)).toNat + 1) + ((out_l : Int) - at_').toNat) 2147483648) then L tab C 17 [] [.lp [1, 1, 1, 0, 1, 0]] (S17_111010 l' radius' 0 (((at_' - (0 : Int)).toNat + 1) + ((out_l : Int) - at_').toNat) (IntKind.i64.wrap (i' + (1 : Int))) c_b0 c_b1 c_b2 c_b3 c_b4 c_b5 c_b6 c_b7 c_b8 c_b9 c_b10 c_b11 c_b12 c_b13 c_b14 c_b15 ((((((((out_b.drop (out_o + 0)).take ((at_' - (0 : Int)).toNat)).drop 0).take ((at_' - (0 : Int)).toNat)) ++ ([.agg [.int .i64 s_b0, .int .i64 s_b1, .int .i64 s_b2, .int .i64 s_b3, .int .i64 s_b4]] : List PV)).drop 0).take ((at_' - (0 : Int)).toNat + 1)) ++ ((out_b.drop (out_o + at_'.toNat)).take (((out_l : Int) - at_').toNat)))) else none else none else none else none else none := by kernel_rfl
def S18_11010 (t7' : List PV) (t8' : Int) (t9' : Int) (p_b0 : Int) (p_b1 : Int) (p_b2 : Int) (p_b3 : Int) (p_b4 : Int) (p_b5 : List PV) : St := ⟨.undef :: (.ptr 1 0 0) :: .undef :: (.p (.fn 35 [])) :: .undef :: .undef :: .undef :: (.p (.list true [.int .i64, .int .i64, .int .i64, .int .u8, .int .u8, .int .u8] t7')) :: (.p (.int .i64 t8')) :: (.p (.int .i64 t9')) :: List.replicate 21 .undef, [(1, .box [.p (.int .i64 p_b0), .p (.int .i64 p_b1), .p (.int .u8 p_b2), .p (.int .u8 p_b3), .p (.int .u8 p_b4), .p (.list true [.int .i64, .int .i64, .int .i64, .int .u8, .int .u8, .int .u8] p_b5)])]⟩
theorem e18 (C : CallF) (p_0 : Int) (p_1 : Int) (p_2 : Int) (p_3 : Int) (p_4 : Int) (p_5 : List PV) : acallI tab C 18 [.p (.agg [.int .i64 p_0, .int .i64 p_1, .int .u8 p_2, .int .u8 p_3, .int .u8 p_4, .list true [.int .i64, .int .i64, .int .i64, .int .u8, .int .u8, .int .u8] p_5])] [] =
  L tab C 18 [] [.lp [1, 1, 0, 1, 0]] (S18_11010 p_5 ((p_5.length : Nat) : Int) 0 p_0 p_1 p_2 p_3 p_4 p_5) := by kernel_rfl
theorem e18_11010 (C : CallF) (t7' : List PV) (t8' : Int) (t9' : Int) (p_b0 : Int) (p_b1 : Int) (p_b2 : Int) (p_b3 : Int) (p_b4 : Int) (p_b5 : List PV) : R tab C 18 [] [.lp [1, 1, 0, 1, 0]] (S18_11010 t7' t8' t9' p_b0 p_b1 p_b2 p_b3 p_b4 p_b5) =
  bif (ltI t9' t8') then
    bif ((leI (0 : Int) t9') && (ltI t9' ((t7'.length : Nat) : Int))) then (C 35 [.p (.agg [.int .i64 (((t7'.getD t9'.toNat .nil).cell 0).toInt), .int .i64 (((t7'.getD t9'.toNat .nil).cell 1).toInt), .int .i64 (((t7'.getD t9'.toNat .nil).cell 2).toInt), .int .u8 (((t7'.getD t9'.toNat .nil).cell 3).toInt), .int .u8 (((t7'.getD t9'.toNat .nil).cell 4).toInt), .int .u8 (((t7'.getD t9'.toNat .nil).cell 5).toInt)])] []).bind fun r1 =>
    bif (r1.1.headD .undef).pv.toBool then
      some ([.p (.bool false)], [])
    else
      L tab C 18 [] [.lp [1, 1, 0, 1, 0]] (S18_11010 t7' t8' (IntKind.i64.wrap (t9' + (1 : Int))) p_b0 p_b1 p_b2 p_b3 p_b4 p_b5) else none
  else
    (C 22 [.p (.int .i64 p_b0), .p (.int .i64 1), .p (.int .i64 4096)] []).bind fun r2 =>
    bif (r2.1.headD .undef).pv.toBool then
      (C 22 [.p (.int .i64 p_b1), .p (.int .i64 1), .p (.int .i64 4096)] []).bind fun r3 =>
      bif (r3.1.headD .undef).pv.toBool then
        some ([.p (.bool (leI ((p_b5.length : Nat) : Int) (4096 : Int)))], [])
      else
        some ([.p (.bool false)], [])
    else
      some ([.p (.bool false)], []) := by kernel_rfl
def S20_111010 (t12' : List PV) (t13' : Int) (t14' : Int) (c_b0 : Int) (c_b1 : Int) (c_b2 : Int) (b11_b : List PV) : St := ⟨.undef :: .undef :: .undef :: .undef :: (.ptr 4 0 0) :: .undef :: .undef :: (.ptr 7 0 0) :: .undef :: .undef :: .undef :: .undef :: (.p (.list false [.int .i64] t12')) :: (.p (.int .i64 t13')) :: (.p (.int .i64 t14')) :: List.replicate 14 .undef, [(4, .box [.p (.int .u8 c_b0), .p (.int .u8 c_b1), .p (.int .u8 c_b2)]), (7, .tb 64 (.ptr 7 0 0) (.mref 11)), (11, .br 5 b11_b)]⟩
theorem e20 (C : CallF) (word : ByteArray) (c_0 : Int) (c_1 : Int) (c_2 : Int) (numbers : List PV) : acallI tab C 20 [.p (.str word), .p (.agg [.int .u8 c_0, .int .u8 c_1, .int .u8 c_2]), .p (.list false [.int .i64] numbers)] [] =
  bif (leN word.size 2147483648) then L tab C 20 [] [.lp [1, 1, 1, 0, 1, 0]] (S20_111010 numbers ((numbers.length : Nat) : Int) 0 c_0 c_1 c_2 (strPVs word)) else none := by kernel_rfl
theorem e20_111010 (C : CallF) (t12' : List PV) (t13' : Int) (t14' : Int) (c_b0 : Int) (c_b1 : Int) (c_b2 : Int) (b11_b : List PV) : R tab C 20 [] [.lp [1, 1, 1, 0, 1, 0]] (S20_111010 t12' t13' t14' c_b0 c_b1 c_b2 b11_b) =
  bif (ltI t14' t13') then
    bif ((leI (0 : Int) t14') && (ltI t14' ((t12'.length : Nat) : Int))) then bif (leN (b11_b.length + 1) 2147483648) then (C 38 [.p (.int .i64 (((t12'.getD t14'.toNat .nil).cell 0).toInt))] []).bind fun r1 =>
    bif (leN ((b11_b ++ ([.int .u8 32] : List PV)).length + ((r1.1.headD .undef).pv.toStr).size) 2147483648) then L tab C 20 [] [.lp [1, 1, 1, 0, 1, 0]] (S20_111010 t12' t13' (IntKind.i64.wrap (t14' + (1 : Int))) c_b0 c_b1 c_b2 ((b11_b ++ ([.int .u8 32] : List PV)) ++ (strPVs ((r1.1.headD .undef).pv.toStr)))) else none else none else none
  else
    bif (leN b11_b.length 2147483648) then bif (b11_b.all PV.isByte) then bif (leN ((bytesOf b11_b).size + (⟨#[32]⟩ : ByteArray).size) 4611686018427387904) then (C 39 [.p (.agg [.int .u8 c_b0, .int .u8 c_b1, .int .u8 c_b2])] []).bind fun r2 =>
    bif (leN (((bytesOf b11_b) ++ (⟨#[32]⟩ : ByteArray)).size + ((r2.1.headD .undef).pv.toStr).size) 4611686018427387904) then bif (leN ((((bytesOf b11_b) ++ (⟨#[32]⟩ : ByteArray)) ++ (r2.1.headD .undef).pv.toStr).size + (⟨#[10]⟩ : ByteArray).size) 4611686018427387904) then some ([.p (.str ((((bytesOf b11_b) ++ (⟨#[32]⟩ : ByteArray)) ++ (r2.1.headD .undef).pv.toStr) ++ (⟨#[10]⟩ : ByteArray)))], []) else none else none else none else none else none := by kernel_rfl
theorem e22 (C : CallF) (n_ : Int) (low : Int) (high : Int) : acallI tab C 22 [.p (.int .i64 n_), .p (.int .i64 low), .p (.int .i64 high)] [] =
  bif (leI low n_) then
    some ([.p (.bool (leI n_ high))], [])
  else
    some ([.p (.bool false)], []) := by kernel_rfl
theorem e23 (C : CallF) (s : List PV) : acallI tab C 23 [.p (.list true [.int .i64, .int .i64, .int .i64, .int .u8, .int .u8, .int .u8] s)] [] =
  some ([.p (.fn 40 [.ref [.list true [.int .i64, .int .i64, .int .i64, .int .u8, .int .u8, .int .u8] s]])], []) := by kernel_rfl
theorem e24 (C : CallF) (d_0 : Int) (d_1 : Int) (d_2 : Int) (d_3 : Int) (d_4 : Int) (d_5 : Int) (x : Int) (y : Int) (width : Int) (height : Int) : acallI tab C 24 [.p (.agg [.int .i64 d_0, .int .i64 d_1, .int .i64 d_2, .int .u8 d_3, .int .u8 d_4, .int .u8 d_5]), .p (.int .i64 x), .p (.int .i64 y), .p (.int .i64 width), .p (.int .i64 height)] [] =
  some ([.p (.bool (leI (IntKind.i64.wrap ((IntKind.i64.wrap ((IntKind.i64.wrap ((goMin (goMax d_0 x) (IntKind.i64.wrap ((IntKind.i64.wrap (x + width)) - (1 : Int)))) - d_0)) * (IntKind.i64.wrap ((goMin (goMax d_0 x) (IntKind.i64.wrap ((IntKind.i64.wrap (x + width)) - (1 : Int)))) - d_0)))) + (IntKind.i64.wrap ((IntKind.i64.wrap ((goMin (goMax d_1 y) (IntKind.i64.wrap ((IntKind.i64.wrap (y + height)) - (1 : Int)))) - d_1)) * (IntKind.i64.wrap ((goMin (goMax d_1 y) (IntKind.i64.wrap ((IntKind.i64.wrap (y + height)) - (1 : Int)))) - d_1)))))) (IntKind.i64.wrap (d_2 * d_2))))], []) := by kernel_rfl
def S25_11010 (slices' : List PV) (size' : Int) (t9' : List PV) (t10' : Int) (t11' : Int) : St := ⟨(.p (.list false [.slice true [.int .i64, .int .i64, .int .i64, .int .u8, .int .u8, .int .u8]] slices')) :: .undef :: .undef :: (.p (.int .i64 size')) :: .undef :: .undef :: .undef :: .undef :: .undef :: (.p (.list false [.slice true [.int .i64, .int .i64, .int .i64, .int .u8, .int .u8, .int .u8]] t9')) :: (.p (.int .i64 t10')) :: (.p (.int .i64 t11')) :: List.replicate 24 .undef, []⟩
def S25_1111010 (newslice_o : Nat) (newslice_l : Nat) (t25' : List PV) (t26' : Int) (t27' : Int) (newslice_b : List PV) : St := ⟨.undef :: .undef :: .undef :: .undef :: .undef :: .undef :: (.slice 6 6 newslice_o newslice_l) :: .undef :: .undef :: .undef :: .undef :: .undef :: .undef :: .undef :: .undef :: .undef :: .undef :: .undef :: .undef :: .undef :: .undef :: .undef :: .undef :: .undef :: .undef :: (.p (.list false [.slice true [.int .i64, .int .i64, .int .i64, .int .u8, .int .u8, .int .u8]] t25')) :: (.p (.int .i64 t26')) :: (.p (.int .i64 t27')) :: List.replicate 8 .undef, [(6, .arr true [.int .i64, .int .i64, .int .i64, .int .u8, .int .u8, .int .u8] newslice_b)]⟩
theorem e25 (C : CallF) (slices : List PV) : acallI tab C 25 [.p (.list false [.slice true [.int .i64, .int .i64, .int .i64, .int .u8, .int .u8, .int .u8]] slices)] [] =
  L tab C 25 [] [.lp [1, 1, 0, 1, 0]] (S25_11010 slices 0 slices ((slices.length : Nat) : Int) 0) := by kernel_rfl
theorem e25_11010 (C : CallF) (slices' : List PV) (size' : Int) (t9' : List PV) (t10' : Int) (t11' : Int) : R tab C 25 [] [.lp [1, 1, 0, 1, 0]] (S25_11010 slices' size' t9' t10' t11') =
  bif (ltI t11' t10') then
    bif ((leI (0 : Int) t11') && (ltI t11' ((t9'.length : Nat) : Int))) then bif (ltI (IntKind.i64.wrap (size' + (((((t9'.getD t11'.toNat .nil).cell 0).toList).length : Nat) : Int))) (0 : Int)) then
      none
    else
      L tab C 25 [] [.lp [1, 1, 0, 1, 0]] (S25_11010 slices' (IntKind.i64.wrap (size' + (((((t9'.getD t11'.toNat .nil).cell 0).toList).length : Nat) : Int))) t9' t10' (IntKind.i64.wrap (t11' + (1 : Int)))) else none
  else
    (C 41 [.p (.nil), .p (.int .i64 size')] []).bind fun r1 =>
    L tab C 25 [] [.lp [1, 1, 1, 1, 0, 1, 0]] (S25_1111010 0 ((r1.1.headD .undef).freshList.length) slices' ((slices'.length : Nat) : Int) 0 ((r1.1.headD .undef).freshList)) := by kernel_rfl
theorem e25_1111010 (C : CallF) (newslice_o : Nat) (newslice_l : Nat) (t25' : List PV) (t26' : Int) (t27' : Int) (newslice_b : List PV) : R tab C 25 [] [.lp [1, 1, 1, 1, 0, 1, 0]] (S25_1111010 newslice_o newslice_l t25' t26' t27' newslice_b) =
  bif (ltI t27' t26') then
    bif ((leI (0 : Int) t27') && (ltI t27' ((t25'.length : Nat) : Int))) then bif (leN (newslice_l + (((t25'.getD t27'.toNat .nil).cell 0).toList).length) 2147483648) then L tab C 25 [] [.lp [1, 1, 1, 1, 0, 1, 0]] (S25_1111010 0 (newslice_l + (((t25'.getD t27'.toNat .nil).cell 0).toList).length) t25' t26' (IntKind.i64.wrap (t27' + (1 : Int))) (((newslice_b.drop newslice_o).take newslice_l) ++ (((t25'.getD t27'.toNat .nil).cell 0).toList))) else none else none
  else
    some ([.fresh true [.int .i64, .int .i64, .int .i64, .int .u8, .int .u8, .int .u8] ((newslice_b.drop newslice_o).take newslice_l)], []) := by kernel_rfl
theorem e26 (C : CallF) (s : ByteArray) (suffix : ByteArray) : acallI tab C 26 [.p (.str s), .p (.str suffix)] [] =
  (C 42 [.p (.str s), .p (.str suffix)] []).bind fun r1 =>
  some ([.p (.str ((r1.1.headD .undef).pv.toStr)), .p (.bool ((r1.1.tail.headD .undef).pv.toBool))], []) := by kernel_rfl
def S28_1111010 (many' : Int) (w_o : Nat) (w_l : Nat) (out_o : Nat) (out_l : Nat) (t35_o : Nat) (t35_l : Nat) (t36' : Int) (t37' : Int) (b7_b0 : Int) (b7_b1 : Int) (b7_b2 : Int) (w_b : List PV) (out_b : List PV) : St := ⟨.undef :: .undef :: (.p (.int .i64 many')) :: .undef :: .undef :: .undef :: .undef :: (.ptr 7 0 0) :: .undef :: (.slice 9 1 w_o w_l) :: (.slice 10 1 out_o out_l) :: .undef :: .undef :: .undef :: .undef :: .undef :: .undef :: .undef :: .undef :: .undef :: .undef :: .undef :: .undef :: .undef :: .undef :: .undef :: .undef :: .undef :: .undef :: .undef :: .undef :: .undef :: .undef :: .undef :: .undef :: (.slice 9 1 t35_o t35_l) :: (.p (.int .i64 t36')) :: (.p (.int .i64 t37')) :: List.replicate 35 .undef, [(7, .box [.p (.int .u8 b7_b0), .p (.int .u8 b7_b1), .p (.int .u8 b7_b2)]), (9, .arr false [.str] w_b), (10, .arr false [.int .i64] out_b)]⟩
theorem e28 (C : CallF) (s : ByteArray) (word : ByteArray) (many : Int) : acallI tab C 28 [.p (.str s), .p (.str word), .p (.int .i64 many)] [] =
  (C 44 [.p (.str s), .p (.str ⟨#[32]⟩)] []).bind fun r1 =>
  bif ((((r1.1.headD .undef).freshList.length : Nat) : Int) != (IntKind.i64.wrap (many + (2 : Int)))) then
    some ([.fresh false [.int .i64] [], .p (.agg [.int .u8 0, .int .u8 0, .int .u8 0]), .p (.bool false)], [])
  else
    bif (ltI (0 : Int) (((r1.1.headD .undef).freshList.length : Nat) : Int)) then bif (!((((((r1.1.headD .undef).freshList).getD 0 .nil).cell 0).toStr).toList == word.toList)) then
      some ([.fresh false [.int .i64] [], .p (.agg [.int .u8 0, .int .u8 0, .int .u8 0]), .p (.bool false)], [])
    else
      bif ((leI (1 : Int) (IntKind.i64.wrap (many + (1 : Int)))) && ((leI (IntKind.i64.wrap (many + (1 : Int))) (((r1.1.headD .undef).freshList.length : Nat) : Int)) && (leI (((r1.1.headD .undef).freshList.length : Nat) : Int) (((r1.1.headD .undef).freshList.length : Nat) : Int)))) then L tab C 28 [] [.lp [1, 1, 1, 1, 0, 1, 0]] (S28_1111010 many 0 ((r1.1.headD .undef).freshList.length) 0 0 1 (((IntKind.i64.wrap (many + (1 : Int))) - (1 : Int)).toNat) ((((IntKind.i64.wrap (many + (1 : Int))) - (1 : Int)).toNat : Nat) : Int) 0 0 0 0 ((r1.1.headD .undef).freshList) []) else none else none := by kernel_rfl
theorem e28_1111010 (C : CallF) (many' : Int) (w_o : Nat) (w_l : Nat) (out_o : Nat) (out_l : Nat) (t35_o : Nat) (t35_l : Nat) (t36' : Int) (t37' : Int) (b7_b0 : Int) (b7_b1 : Int) (b7_b2 : Int) (w_b : List PV) (out_b : List PV) : R tab C 28 [] [.lp [1, 1, 1, 1, 0, 1, 0]] (S28_1111010 many' w_o w_l out_o out_l t35_o t35_l t36' t37' b7_b0 b7_b1 b7_b2 w_b out_b) =
  bif (ltI t37' t36') then
    bif ((leI (0 : Int) t37') && (ltI t37' (t35_l : Int))) then (C 45 [.p (.str (((w_b.getD (t35_o + t37'.toNat) .nil).cell 0).toStr))] []).bind fun r1 =>
    bif (true && (r1.1.tail.headD .undef).pv.isI) then bif (!(r1.1.tail.headD .undef).pv.isNilI) then
      some ([.fresh false [.int .i64] [], .p (.agg [.int .u8 0, .int .u8 0, .int .u8 0]), .p (.bool false)], [])
    else
      (C 38 [.p (.int .i64 ((r1.1.headD .undef).pv.toInt))] []).bind fun r2 =>
      bif (!(((r2.1.headD .undef).pv.toStr).toList == (((w_b.getD (t35_o + t37'.toNat) .nil).cell 0).toStr).toList)) then
        some ([.fresh false [.int .i64] [], .p (.agg [.int .u8 0, .int .u8 0, .int .u8 0]), .p (.bool false)], [])
      else
        bif (leN (out_l + 1) 2147483648) then L tab C 28 [] [.lp [1, 1, 1, 1, 0, 1, 0]] (S28_1111010 many' w_o w_l 0 (out_l + 1) t35_o t35_l t36' (IntKind.i64.wrap (t37' + (1 : Int))) b7_b0 b7_b1 b7_b2 w_b (((out_b.drop out_o).take out_l) ++ ([.int .i64 ((r1.1.headD .undef).pv.toInt)] : List PV))) else none else none else none
  else
    bif ((leI (0 : Int) (IntKind.i64.wrap (many' + (1 : Int)))) && (ltI (IntKind.i64.wrap (many' + (1 : Int))) (w_l : Int))) then (C 46 [.p (.str (((w_b.getD (w_o + (IntKind.i64.wrap (many' + (1 : Int))).toNat) .nil).cell 0).toStr))] []).bind fun r3 =>
    some ([.fresh false [.int .i64] ((out_b.drop out_o).take out_l), .p (.agg [.int .u8 (((r3.1.headD .undef).pv.cell 0).toInt), .int .u8 (((r3.1.headD .undef).pv.cell 1).toInt), .int .u8 (((r3.1.headD .undef).pv.cell 2).toInt)]), .p (.bool ((r3.1.tail.headD .undef).pv.toInt == (0 : Int)))], []) else none := by kernel_rfl
theorem e29 (C : CallF) (c_0 : Int) (c_1 : Int) (c_2 : Int) (c_3 : Int) (c_4 : Int) (c_5 : Int) (c_6 : Int) (c_7 : Int) (c_8 : Int) (c_9 : Int) (c_10 : Int) (c_11 : Int) (c_12 : Int) (c_13 : Int) (c_14 : Int) (c_15 : Int) (radius : Int) (l : List PV) : acallI tab C 29 [.p (.agg [.int .i64 c_0, .int .i64 c_1, .int .i64 c_2, .int .i64 c_3, .int .i64 c_4, .int .i64 c_5, .int .i64 c_6, .int .i64 c_7, .int .i64 c_8, .int .i64 c_9, .int .i64 c_10, .int .i64 c_11, .int .i64 c_12, .int .i64 c_13, .int .i64 c_14, .int .i64 c_15]), .p (.int .i64 radius), .p (.list true [.int .i64, .int .i64, .int .i64] l)] [] =
  (C 47 [.p (.agg [.int .i64 c_0, .int .i64 c_1, .int .i64 c_2, .int .i64 c_3, .int .i64 c_4, .int .i64 c_5, .int .i64 c_6, .int .i64 c_7, .int .i64 c_8, .int .i64 c_9, .int .i64 c_10, .int .i64 c_11, .int .i64 c_12, .int .i64 c_13, .int .i64 c_14, .int .i64 c_15])] []).bind fun r1 =>
  bif (r1.1.headD .undef).pv.toBool then
    (C 48 [.p (.int .i64 radius), .p (.int .i64 0), .p (.int .i64 1000)] []).bind fun r2 =>
    bif (r2.1.headD .undef).pv.toBool then
      bif (leI ((l.length : Nat) : Int) (4096 : Int)) then
        (C 49 [.p (.list true [.int .i64, .int .i64, .int .i64] l), .p (.fn 50 [])] []).bind fun r3 =>
        some ([.p (.bool (!(r3.1.headD .undef).pv.toBool))], [])
      else
        some ([.p (.bool false)], [])
    else
      some ([.p (.bool false)], [])
  else
    some ([.p (.bool false)], []) := by kernel_rfl
theorem e30 (C : CallF) (c_0 : Int) (c_1 : Int) (c_2 : Int) (c_3 : Int) (c_4 : Int) (c_5 : Int) (c_6 : Int) (c_7 : Int) (c_8 : Int) (c_9 : Int) (c_10 : Int) (c_11 : Int) (c_12 : Int) (c_13 : Int) (c_14 : Int) (c_15 : Int) (p_0 : Int) (p_1 : Int) (p_2 : Int) (radius : Int) : acallI tab C 30 [.p (.agg [.int .i64 c_0, .int .i64 c_1, .int .i64 c_2, .int .i64 c_3, .int .i64 c_4, .int .i64 c_5, .int .i64 c_6, .int .i64 c_7, .int .i64 c_8, .int .i64 c_9, .int .i64 c_10, .int .i64 c_11, .int .i64 c_12, .int .i64 c_13, .int .i64 c_14, .int .i64 c_15]), .p (.agg [.int .i64 p_0, .int .i64 p_1, .int .i64 p_2]), .p (.int .i64 radius)] [] =
  (C 52 [.p (.agg [.int .i64 (IntKind.i64.wrap (p_0 - c_0)), .int .i64 (IntKind.i64.wrap (p_1 - c_1)), .int .i64 (IntKind.i64.wrap (p_2 - c_2))]), .p (.agg [.int .i64 c_9, .int .i64 c_10, .int .i64 c_11])] []).bind fun r1 =>
  bif (ltI ((r1.1.headD .undef).pv.toInt) c_15) then
    some ([.p (.agg [.int .i64 0, .int .i64 0, .int .i64 0, .int .i64 0, .int .i64 0]), .p (.bool false)], [])
  else
    (C 52 [.p (.agg [.int .i64 (IntKind.i64.wrap (p_0 - c_0)), .int .i64 (IntKind.i64.wrap (p_1 - c_1)), .int .i64 (IntKind.i64.wrap (p_2 - c_2))]), .p (.agg [.int .i64 c_3, .int .i64 c_4, .int .i64 c_5])] []).bind fun r2 =>
    (C 53 [.p (.int .i64 (IntKind.i64.wrap (c_12 * (r2.1.headD .undef).pv.toInt))), .p (.int .i64 ((r1.1.headD .undef).pv.toInt))] []).bind fun r3 =>
    (C 52 [.p (.agg [.int .i64 (IntKind.i64.wrap (p_0 - c_0)), .int .i64 (IntKind.i64.wrap (p_1 - c_1)), .int .i64 (IntKind.i64.wrap (p_2 - c_2))]), .p (.agg [.int .i64 c_6, .int .i64 c_7, .int .i64 c_8])] []).bind fun r4 =>
    (C 53 [.p (.int .i64 (IntKind.i64.wrap (c_12 * (r4.1.headD .undef).pv.toInt))), .p (.int .i64 ((r1.1.headD .undef).pv.toInt))] []).bind fun r5 =>
    (C 48 [.p (.int .i64 (IntKind.i64.wrap ((IntKind.i64.wrap (c_13.tdiv (2 : Int))) + (r3.1.headD .undef).pv.toInt))), .p (.int .i64 0), .p (.int .i64 (IntKind.i64.wrap (c_13 - (1 : Int))))] []).bind fun r6 =>
    bif (!(r6.1.headD .undef).pv.toBool) then
      some ([.p (.agg [.int .i64 0, .int .i64 0, .int .i64 0, .int .i64 0, .int .i64 0]), .p (.bool false)], [])
    else
      (C 48 [.p (.int .i64 (IntKind.i64.wrap ((IntKind.i64.wrap (c_14.tdiv (2 : Int))) - (r5.1.headD .undef).pv.toInt))), .p (.int .i64 0), .p (.int .i64 (IntKind.i64.wrap (c_14 - (1 : Int))))] []).bind fun r7 =>
      bif (!(r7.1.headD .undef).pv.toBool) then
        some ([.p (.agg [.int .i64 0, .int .i64 0, .int .i64 0, .int .i64 0, .int .i64 0]), .p (.bool false)], [])
      else
        (C 52 [.p (.agg [.int .i64 c_6, .int .i64 c_7, .int .i64 c_8]), .p (.agg [.int .i64 c_6, .int .i64 c_7, .int .i64 c_8])] []).bind fun r8 =>
        bif (!(eqI ((r1.1.headD .undef).pv.toInt) (0 : Int))) then bif (!(eqI ((r1.1.headD .undef).pv.toInt) (0 : Int))) then (C 54 [.p (.int .i64 (IntKind.i64.wrap ((IntKind.i64.wrap ((IntKind.i64.wrap ((IntKind.i64.wrap ((IntKind.i64.wrap (c_12 * radius)) * (IntKind.i64.wrap (c_12 * radius)))) * (r8.1.headD .undef).pv.toInt)).tdiv ((r1.1.headD .undef).pv.toInt))).tdiv ((r1.1.headD .undef).pv.toInt))))] []).bind fun r9 =>
        some ([.p (.agg [.int .i64 0, .int .i64 (IntKind.i64.wrap ((IntKind.i64.wrap (c_13.tdiv (2 : Int))) + (r3.1.headD .undef).pv.toInt)), .int .i64 (IntKind.i64.wrap ((IntKind.i64.wrap (c_14.tdiv (2 : Int))) - (r5.1.headD .undef).pv.toInt)), .int .i64 (goMax 1 ((r9.1.headD .undef).pv.toInt)), .int .i64 ((r1.1.headD .undef).pv.toInt)]), .p (.bool true)], []) else none else none := by kernel_rfl
theorem e31 (C : CallF) (x_o : Nat) (x_l : Nat) (x_b : List PV) : acallI tab C 31 [.slice 100000 5 x_o x_l, .p (.fn 32 [])] [.arr true [.int .i64, .int .i64, .int .i64, .int .i64, .int .i64] x_b] =
  (C 55 [.slice 100000 5 x_o x_l, .p (.int .i64 (x_l : Int)), .p (.fn 32 [])] [.arr true [.int .i64, .int .i64, .int .i64, .int .i64, .int .i64] x_b]).bind fun r1 =>
  some ([], [.arr true [.int .i64, .int .i64, .int .i64, .int .i64, .int .i64] ((r1.2.headD (.box [])).xs)]) := by kernel_rfl
theorem e32 (C : CallF) (a_0 : Int) (a_1 : Int) (a_2 : Int) (a_3 : Int) (a_4 : Int) (b_0 : Int) (b_1 : Int) (b_2 : Int) (b_3 : Int) (b_4 : Int) : acallI tab C 32 [.p (.agg [.int .i64 a_0, .int .i64 a_1, .int .i64 a_2, .int .i64 a_3, .int .i64 a_4]), .p (.agg [.int .i64 b_0, .int .i64 b_1, .int .i64 b_2, .int .i64 b_3, .int .i64 b_4])] [] =
  some ([.p (.int .i64 (IntKind.i64.wrap (b_4 - a_4)))], []) := by kernel_rfl
def S33_11010 (l' : List PV) (i' : Int) : St := ⟨.undef :: (.p (.list true [.int .i64, .int .i64, .int .i64] l')) :: .undef :: .undef :: .undef :: .undef :: .undef :: (.p (.int .i64 i')) :: List.replicate 25 .undef, []⟩
theorem e33 (C : CallF) (c_0 : Int) (c_1 : Int) (c_2 : Int) (c_3 : Int) (c_4 : Int) (c_5 : Int) (c_6 : Int) (c_7 : Int) (c_8 : Int) (c_9 : Int) (c_10 : Int) (c_11 : Int) (c_12 : Int) (c_13 : Int) (c_14 : Int) (c_15 : Int) (l : List PV) (radius : Int) : acallI tab C 33 [.p (.agg [.int .i64 c_0, .int .i64 c_1, .int .i64 c_2, .int .i64 c_3, .int .i64 c_4, .int .i64 c_5, .int .i64 c_6, .int .i64 c_7, .int .i64 c_8, .int .i64 c_9, .int .i64 c_10, .int .i64 c_11, .int .i64 c_12, .int .i64 c_13, .int .i64 c_14, .int .i64 c_15]), .p (.list true [.int .i64, .int .i64, .int .i64] l), .p (.int .i64 radius)] [] =
  (C 56 [.p (.agg [.int .i64 c_0, .int .i64 c_1, .int .i64 c_2, .int .i64 c_3, .int .i64 c_4, .int .i64 c_5, .int .i64 c_6, .int .i64 c_7, .int .i64 c_8, .int .i64 c_9, .int .i64 c_10, .int .i64 c_11, .int .i64 c_12, .int .i64 c_13, .int .i64 c_14, .int .i64 c_15])] []).bind fun r1 =>
  bif (!(r1.1.headD .undef).pv.toBool) then
    some ([.p (.bool false)], [])
  else
    bif (gtI ((l.length : Nat) : Int) (4096 : Int)) then
      some ([.p (.bool false)], [])
    else
      (C 57 [.p (.int .i64 radius), .p (.int .i64 0), .p (.int .i64 1000)] []).bind fun r2 =>
      bif (!(r2.1.headD .undef).pv.toBool) then
        some ([.p (.bool false)], [])
      else
        L tab C 33 [] [.lp [1, 1, 0, 1, 0]] (S33_11010 l 0) := by kernel_rfl
theorem e33_11010 (C : CallF) (l' : List PV) (i' : Int) : R tab C 33 [] [.lp [1, 1, 0, 1, 0]] (S33_11010 l' i') =
  bif (ltI i' ((l'.length : Nat) : Int)) then
    bif ((leI (0 : Int) i') && (ltI i' ((l'.length : Nat) : Int))) then (C 58 [.p (.agg [.int .i64 (((l'.getD i'.toNat .nil).cell 0).toInt), .int .i64 (((l'.getD i'.toNat .nil).cell 1).toInt), .int .i64 (((l'.getD i'.toNat .nil).cell 2).toInt)])] []).bind fun r1 =>
    bif (!(r1.1.headD .undef).pv.toBool) then
      some ([.p (.bool false)], [])
    else
      L tab C 33 [] [.lp [1, 1, 0, 1, 0]] (S33_11010 l' (IntKind.i64.wrap (i' + (1 : Int)))) else none
  else
    some ([.p (.bool true)], []) := by kernel_rfl
def S34_1111111100 (z' : Int) (n_' : Int) (low' : Int) (high' : Int) (b6_b0 : Int) (b6_b1 : Int) (b6_b2 : Int) (b6_b3 : Int) (b6_b4 : Int) (s_b0 : Int) (s_b1 : Int) (s_b2 : Int) (s_b3 : Int) (s_b4 : Int) : St := ⟨.undef :: .undef :: .undef :: .undef :: .undef :: .undef :: (.ptr 6 0 0) :: .undef :: .undef :: (.p (.int .i64 z')) :: (.ptr 10 0 0) :: (.p (.int .i64 n_')) :: (.p (.int .i64 low')) :: (.p (.int .i64 high')) :: List.replicate 129 .undef, [(6, .box [.p (.int .i64 b6_b0), .p (.int .i64 b6_b1), .p (.int .i64 b6_b2), .p (.int .i64 b6_b3), .p (.int .i64 b6_b4)]), (10, .box [.p (.int .i64 s_b0), .p (.int .i64 s_b1), .p (.int .i64 s_b2), .p (.int .i64 s_b3), .p (.int .i64 s_b4)])]⟩
def S34_11111111100 (z' : Int) (n_' : Int) (low' : Int) (high' : Int) (b6_b0 : Int) (b6_b1 : Int) (b6_b2 : Int) (b6_b3 : Int) (b6_b4 : Int) (s_b0 : Int) (s_b1 : Int) (s_b2 : Int) (s_b3 : Int) (s_b4 : Int) : St := ⟨.undef :: .undef :: .undef :: .undef :: .undef :: .undef :: (.ptr 6 0 0) :: .undef :: .undef :: (.p (.int .i64 z')) :: (.ptr 10 0 0) :: (.p (.int .i64 n_')) :: (.p (.int .i64 low')) :: (.p (.int .i64 high')) :: List.replicate 129 .undef, [(6, .box [.p (.int .i64 b6_b0), .p (.int .i64 b6_b1), .p (.int .i64 b6_b2), .p (.int .i64 b6_b3), .p (.int .i64 b6_b4)]), (10, .box [.p (.int .i64 s_b0), .p (.int .i64 s_b1), .p (.int .i64 s_b2), .p (.int .i64 s_b3), .p (.int .i64 s_b4)])]⟩
theorem e34 (C : CallF) (c_0 : Int) (c_1 : Int) (c_2 : Int) (c_3 : Int) (c_4 : Int) (c_5 : Int) (c_6 : Int) (c_7 : Int) (c_8 : Int) (c_9 : Int) (c_10 : Int) (c_11 : Int) (c_12 : Int) (c_13 : Int) (c_14 : Int) (c_15 : Int) (p_0 : Int) (p_1 : Int) (p_2 : Int) (radius : Int) : acallI tab C 34 [.p (.agg [.int .i64 c_0, .int .i64 c_1, .int .i64 c_2, .int .i64 c_3, .int .i64 c_4, .int .i64 c_5, .int .i64 c_6, .int .i64 c_7, .int .i64 c_8, .int .i64 c_9, .int .i64 c_10, .int .i64 c_11, .int .i64 c_12, .int .i64 c_13, .int .i64 c_14, .int .i64 c_15]), .p (.agg [.int .i64 p_0, .int .i64 p_1, .int .i64 p_2]), .p (.int .i64 radius)] [] =
  (C 59 [.p (.agg [.int .i64 (IntKind.i64.wrap (p_0 - c_0)), .int .i64 (IntKind.i64.wrap (p_1 - c_1)), .int .i64 (IntKind.i64.wrap (p_2 - c_2))]), .p (.agg [.int .i64 c_9, .int .i64 c_10, .int .i64 c_11])] []).bind fun r1 =>
  bif (ltI ((r1.1.headD .undef).pv.toInt) c_15) then
    some ([.p (.agg [.int .i64 0, .int .i64 0, .int .i64 0, .int .i64 0, .int .i64 0]), .p (.bool false)], [])
  else
    (C 59 [.p (.agg [.int .i64 (IntKind.i64.wrap (p_0 - c_0)), .int .i64 (IntKind.i64.wrap (p_1 - c_1)), .int .i64 (IntKind.i64.wrap (p_2 - c_2))]), .p (.agg [.int .i64 c_3, .int .i64 c_4, .int .i64 c_5])] []).bind fun r2 =>
    (C 60 [.p (.int .i64 (IntKind.i64.wrap (c_12 * (r2.1.headD .undef).pv.toInt))), .p (.int .i64 ((r1.1.headD .undef).pv.toInt))] []).bind fun r3 =>
    (C 59 [.p (.agg [.int .i64 (IntKind.i64.wrap (p_0 - c_0)), .int .i64 (IntKind.i64.wrap (p_1 - c_1)), .int .i64 (IntKind.i64.wrap (p_2 - c_2))]), .p (.agg [.int .i64 c_6, .int .i64 c_7, .int .i64 c_8])] []).bind fun r4 =>
    (C 60 [.p (.int .i64 (IntKind.i64.wrap (c_12 * (r4.1.headD .undef).pv.toInt))), .p (.int .i64 ((r1.1.headD .undef).pv.toInt))] []).bind fun r5 =>
    bif (ltI (IntKind.i64.wrap ((IntKind.i64.wrap (c_13.tdiv (2 : Int))) + (r3.1.headD .undef).pv.toInt)) (0 : Int)) then
      some ([.p (.agg [.int .i64 0, .int .i64 0, .int .i64 0, .int .i64 0, .int .i64 0]), .p (.bool false)], [])
    else
      bif (geI (IntKind.i64.wrap ((IntKind.i64.wrap (c_13.tdiv (2 : Int))) + (r3.1.headD .undef).pv.toInt)) c_13) then
        some ([.p (.agg [.int .i64 0, .int .i64 0, .int .i64 0, .int .i64 0, .int .i64 0]), .p (.bool false)], [])
      else
        bif (ltI (IntKind.i64.wrap ((IntKind.i64.wrap (c_14.tdiv (2 : Int))) - (r5.1.headD .undef).pv.toInt)) (0 : Int)) then
          some ([.p (.agg [.int .i64 0, .int .i64 0, .int .i64 0, .int .i64 0, .int .i64 0]), .p (.bool false)], [])
        else
          bif (geI (IntKind.i64.wrap ((IntKind.i64.wrap (c_14.tdiv (2 : Int))) - (r5.1.headD .undef).pv.toInt)) c_14) then
            some ([.p (.agg [.int .i64 0, .int .i64 0, .int .i64 0, .int .i64 0, .int .i64 0]), .p (.bool false)], [])
          else
            (C 59 [.p (.agg [.int .i64 c_3, .int .i64 c_4, .int .i64 c_5]), .p (.agg [.int .i64 c_3, .int .i64 c_4, .int .i64 c_5])] []).bind fun r6 =>
            L tab C 34 [] [.lp [1, 1, 1, 1, 1, 1, 1, 1, 0, 0]] (S34_1111111100 ((r1.1.headD .undef).pv.toInt) (IntKind.i64.wrap ((IntKind.i64.wrap ((IntKind.i64.wrap ((IntKind.i64.wrap (c_12 * c_12)) * radius)) * radius)) * (r6.1.headD .undef).pv.toInt)) 0 1 0 0 0 0 0 0 (IntKind.i64.wrap ((IntKind.i64.wrap (c_13.tdiv (2 : Int))) + (r3.1.headD .undef).pv.toInt)) (IntKind.i64.wrap ((IntKind.i64.wrap (c_14.tdiv (2 : Int))) - (r5.1.headD .undef).pv.toInt)) 0 ((r1.1.headD .undef).pv.toInt)) := by kernel_rfl
theorem e34_1111111100 (C : CallF) (z' : Int) (n_' : Int) (low' : Int) (high' : Int) (b6_b0 : Int) (b6_b1 : Int) (b6_b2 : Int) (b6_b3 : Int) (b6_b4 : Int) (s_b0 : Int) (s_b1 : Int) (s_b2 : Int) (s_b3 : Int) (s_b4 : Int) : R tab C 34 [] [.lp [1, 1, 1, 1, 1, 1, 1, 1, 0, 0]] (S34_1111111100 z' n_' low' high' b6_b0 b6_b1 b6_b2 b6_b3 b6_b4 s_b0 s_b1 s_b2 s_b3 s_b4) =
  bif (!(eqI z' (0 : Int))) then bif (!(eqI z' (0 : Int))) then bif (leI (IntKind.i64.wrap (high' * high')) (IntKind.i64.wrap ((IntKind.i64.wrap (n_'.tdiv z')).tdiv z'))) then
    L tab C 34 [] [.lp [1, 1, 1, 1, 1, 1, 1, 1, 0, 0]] (S34_1111111100 z' n_' low' (IntKind.i64.wrap ((2 : Int) * high')) b6_b0 b6_b1 b6_b2 b6_b3 b6_b4 s_b0 s_b1 s_b2 s_b3 s_b4)
  else
    L tab C 34 [] [.lp [1, 1, 1, 1, 1, 1, 1, 1, 1, 0, 0]] (S34_11111111100 z' n_' low' high' b6_b0 b6_b1 b6_b2 b6_b3 b6_b4 s_b0 s_b1 s_b2 s_b3 s_b4) else none else none := by kernel_rfl
theorem e34_11111111100 (C : CallF) (z' : Int) (n_' : Int) (low' : Int) (high' : Int) (b6_b0 : Int) (b6_b1 : Int) (b6_b2 : Int) (b6_b3 : Int) (b6_b4 : Int) (s_b0 : Int) (s_b1 : Int) (s_b2 : Int) (s_b3 : Int) (s_b4 : Int) : R tab C 34 [] [.lp [1, 1, 1, 1, 1, 1, 1, 1, 1, 0, 0]] (S34_11111111100 z' n_' low' high' b6_b0 b6_b1 b6_b2 b6_b3 b6_b4 s_b0 s_b1 s_b2 s_b3 s_b4) =
  bif (gtI (IntKind.i64.wrap (high' - low')) (1 : Int)) then
    bif (!(eqI z' (0 : Int))) then bif (!(eqI z' (0 : Int))) then bif (leI (IntKind.i64.wrap ((IntKind.i64.wrap ((IntKind.i64.wrap (low' + high')).tdiv (2 : Int))) * (IntKind.i64.wrap ((IntKind.i64.wrap (low' + high')).tdiv (2 : Int))))) (IntKind.i64.wrap ((IntKind.i64.wrap (n_'.tdiv z')).tdiv z'))) then
      L tab C 34 [] [.lp [1, 1, 1, 1, 1, 1, 1, 1, 1, 0, 0]] (S34_11111111100 z' n_' (IntKind.i64.wrap ((IntKind.i64.wrap (low' + high')).tdiv (2 : Int))) high' b6_b0 b6_b1 b6_b2 b6_b3 b6_b4 s_b0 s_b1 s_b2 s_b3 s_b4)
    else
      L tab C 34 [] [.lp [1, 1, 1, 1, 1, 1, 1, 1, 1, 0, 0]] (S34_11111111100 z' n_' low' (IntKind.i64.wrap ((IntKind.i64.wrap (low' + high')).tdiv (2 : Int))) b6_b0 b6_b1 b6_b2 b6_b3 b6_b4 s_b0 s_b1 s_b2 s_b3 s_b4) else none else none
  else
    some ([.p (.agg [.int .i64 s_b0, .int .i64 s_b1, .int .i64 s_b2, .int .i64 (goMax 1 low'), .int .i64 s_b4]), .p (.bool true)], []) := by kernel_rfl
theorem e35 (C : CallF) (d_0 : Int) (d_1 : Int) (d_2 : Int) (d_3 : Int) (d_4 : Int) (d_5 : Int) : acallI tab C 35 [.p (.agg [.int .i64 d_0, .int .i64 d_1, .int .i64 d_2, .int .u8 d_3, .int .u8 d_4, .int .u8 d_5])] [] =
  (C 22 [.p (.int .i64 d_0), .p (.int .i64 (-8192)), .p (.int .i64 8192)] []).bind fun r1 =>
  bif (!(r1.1.headD .undef).pv.toBool) then
    some ([.p (.bool true)], [])
  else
    (C 22 [.p (.int .i64 d_1), .p (.int .i64 (-8192)), .p (.int .i64 8192)] []).bind fun r2 =>
    bif (!(r2.1.headD .undef).pv.toBool) then
      some ([.p (.bool true)], [])
    else
      (C 22 [.p (.int .i64 d_2), .p (.int .i64 1), .p (.int .i64 4096)] []).bind fun r3 =>
      some ([.p (.bool (!(r3.1.headD .undef).pv.toBool))], []) := by kernel_rfl
def S39_11010 (out_o : Nat) (out_l : Nat) (t14_o : Nat) (t14_l : Nat) (t15' : Int) (t16' : Int) (out_b : List PV) (b14_b : List PV) : St := ⟨.undef :: .undef :: .undef :: (.slice 3 1 out_o out_l) :: .undef :: .undef :: .undef :: .undef :: .undef :: .undef :: .undef :: .undef :: .undef :: .undef :: (.slice 14 1 t14_o t14_l) :: (.p (.int .i64 t15')) :: (.p (.int .i64 t16')) :: List.replicate 15 .undef, [(3, .arr false [.int .u8] out_b), (14, .arr false [.int .u8] b14_b)]⟩
theorem e39 (C : CallF) (c_0 : Int) (c_1 : Int) (c_2 : Int) : acallI tab C 39 [.p (.agg [.int .u8 c_0, .int .u8 c_1, .int .u8 c_2])] [] =
  L tab C 39 [] [.lp [1, 1, 0, 1, 0]] (S39_11010 0 1 0 3 3 0 [.int .u8 35] [.int .u8 c_0, .int .u8 c_1, .int .u8 c_2]) := by kernel_rfl
theorem e39_11010 (C : CallF) (out_o : Nat) (out_l : Nat) (t14_o : Nat) (t14_l : Nat) (t15' : Int) (t16' : Int) (out_b : List PV) (b14_b : List PV) : R tab C 39 [] [.lp [1, 1, 0, 1, 0]] (S39_11010 out_o out_l t14_o t14_l t15' t16' out_b b14_b) =
  bif (ltI t16' t15') then
    bif ((leI (0 : Int) t16') && (ltI t16' (t14_l : Int))) then bif ((leI (0 : Int) (IntKind.u8.wrap ((((b14_b.getD (t14_o + t16'.toNat) .nil).cell 0).toInt).tdiv (16 : Int)))) && (ltI (IntKind.u8.wrap ((((b14_b.getD (t14_o + t16'.toNat) .nil).cell 0).toInt).tdiv (16 : Int))) ((⟨#[48, 49, 50, 51, 52, 53, 54, 55, 56, 57, 97, 98, 99, 100, 101, 102]⟩ : ByteArray).size : Int))) then bif ((leI (0 : Int) ((((b14_b.getD (t14_o + t16'.toNat) .nil).cell 0).toInt).tmod (16 : Int))) && (ltI ((((b14_b.getD (t14_o + t16'.toNat) .nil).cell 0).toInt).tmod (16 : Int)) ((⟨#[48, 49, 50, 51, 52, 53, 54, 55, 56, 57, 97, 98, 99, 100, 101, 102]⟩ : ByteArray).size : Int))) then bif (leN (out_l + 2) 2147483648) then L tab C 39 [] [.lp [1, 1, 0, 1, 0]] (S39_11010 0 (out_l + 2) t14_o t14_l t15' (IntKind.i64.wrap (t16' + (1 : Int))) (((out_b.drop out_o).take out_l) ++ ([.int .u8 (((⟨#[48, 49, 50, 51, 52, 53, 54, 55, 56, 57, 97, 98, 99, 100, 101, 102]⟩ : ByteArray).data.getD ((IntKind.u8.wrap ((((b14_b.getD (t14_o + t16'.toNat) .nil).cell 0).toInt).tdiv (16 : Int))).toNat) 0).toNat : Int), .int .u8 (((⟨#[48, 49, 50, 51, 52, 53, 54, 55, 56, 57, 97, 98, 99, 100, 101, 102]⟩ : ByteArray).data.getD (((((b14_b.getD (t14_o + t16'.toNat) .nil).cell 0).toInt).tmod (16 : Int)).toNat) 0).toNat : Int)] : List PV)) b14_b) else none else none else none else none
  else
    some ([.p (.str (bytesOf ((out_b.drop out_o).take out_l)))], []) := by kernel_rfl
def S40_10 (t1_r0 : List PV) (i' : Int) (b100000_b : List PV) : St := ⟨(.yld) :: (.p (.ref [.list true [.int .i64, .int .i64, .int .i64, .int .u8, .int .u8, .int .u8] t1_r0])) :: .undef :: (.p (.int .i64 i')) :: List.replicate 15 .undef, [(100000, .log true b100000_b)]⟩
theorem e40 (C : CallF) (c0 : List PV) : acallI tab C 40 [.yld, .p (.ref [.list true [.int .i64, .int .i64, .int .i64, .int .u8, .int .u8, .int .u8] c0])] [.log true []] =
  L tab C 40 [.log true []] [.lp [1, 0]] (S40_10 c0 (IntKind.i64.wrap (((c0.length : Nat) : Int) - (1 : Int))) []) := by kernel_rfl
theorem e40_10 (C : CallF) (t1_r0 : List PV) (i' : Int) (b100000_b : List PV) : R tab C 40 [.log true []] [.lp [1, 0]] (S40_10 t1_r0 i' b100000_b) =
  bif (geI i' (0 : Int)) then
    bif ((leI (0 : Int) i') && (ltI i' ((t1_r0.length : Nat) : Int))) then fork (some ([], [.log false (b100000_b ++ ([.agg [.int .i64 i', .agg [.int .i64 (((t1_r0.getD i'.toNat .nil).cell 0).toInt), .int .i64 (((t1_r0.getD i'.toNat .nil).cell 1).toInt), .int .i64 (((t1_r0.getD i'.toNat .nil).cell 2).toInt), .int .u8 (((t1_r0.getD i'.toNat .nil).cell 3).toInt), .int .u8 (((t1_r0.getD i'.toNat .nil).cell 4).toInt), .int .u8 (((t1_r0.getD i'.toNat .nil).cell 5).toInt)]]] : List PV))])) <|
    L tab C 40 [.log true []] [.lp [1, 0]] (S40_10 t1_r0 (IntKind.i64.wrap (i' - (1 : Int))) (b100000_b ++ ([.agg [.int .i64 i', .agg [.int .i64 (((t1_r0.getD i'.toNat .nil).cell 0).toInt), .int .i64 (((t1_r0.getD i'.toNat .nil).cell 1).toInt), .int .i64 (((t1_r0.getD i'.toNat .nil).cell 2).toInt), .int .u8 (((t1_r0.getD i'.toNat .nil).cell 3).toInt), .int .u8 (((t1_r0.getD i'.toNat .nil).cell 4).toInt), .int .u8 (((t1_r0.getD i'.toNat .nil).cell 5).toInt)]]] : List PV))) else none
  else
    some ([], [.log true b100000_b]) := by kernel_rfl
theorem e41 (C : CallF) (n_ : Int) : acallI tab C 41 [.p (.nil), .p (.int .i64 n_)] [] =
  bif (ltI n_ (0 : Int)) then
    none
  else
    bif (gtI (IntKind.i64.wrap (n_ - (0 : Int))) (0 : Int)) then
      bif ((leI (0 : Int) (IntKind.i64.wrap (n_ - (0 : Int)))) && (leI (IntKind.i64.wrap (n_ - (0 : Int))) (2147483648 : Int))) then bif (leN ((IntKind.i64.wrap (n_ - (0 : Int))).toNat) 2147483648) then bif ((leI (0 : Int) (((IntKind.i64.wrap (n_ - (0 : Int))).toNat : Nat) : Int)) && (leI (((IntKind.i64.wrap (n_ - (0 : Int))).toNat : Nat) : Int) (((IntKind.i64.wrap (n_ - (0 : Int))).toNat : Nat) : Int))) then some ([.fresh true [.int .i64, .int .i64, .int .i64, .int .u8, .int .u8, .int .u8] (((List.replicate ((IntKind.i64.wrap (n_ - (0 : Int))).toNat) (PV.agg [.int .i64 0, .int .i64 0, .int .i64 0, .int .u8 0, .int .u8 0, .int .u8 0])).drop 0).take 0)], []) else none else none else none
    else
      some ([.fresh true [.int .i64, .int .i64, .int .i64, .int .u8, .int .u8, .int .u8] []], []) := by kernel_rfl
theorem e42 (C : CallF) (s : ByteArray) (suffix : ByteArray) : acallI tab C 42 [.p (.str s), .p (.str suffix)] [] =
  (C 63 [.p (.str s), .p (.str suffix)] []).bind fun r1 =>
  bif (!(r1.1.headD .undef).pv.toBool) then
    some ([.p (.str s), .p (.bool false)], [])
  else
    bif ((leI (0 : Int) (IntKind.i64.wrap (((s.size : Nat) : Int) - ((suffix.size : Nat) : Int)))) && (leI (IntKind.i64.wrap (((s.size : Nat) : Int) - ((suffix.size : Nat) : Int))) (s.size : Int))) then some ([.p (.str (s.extract 0 ((IntKind.i64.wrap (((s.size : Nat) : Int) - ((suffix.size : Nat) : Int))).toNat))), .p (.bool true)], []) else none := by kernel_rfl
def S46_111010 (s' : ByteArray) (t12' : Int) (b2_b0 : Int) (b2_b1 : Int) (b2_b2 : Int) (parts_b0 : Int) (parts_b1 : Int) (parts_b2 : Int) : St := ⟨(.p (.str s')) :: .undef :: (.ptr 2 0 0) :: .undef :: (.ptr 4 0 0) :: .undef :: .undef :: .undef :: .undef :: .undef :: .undef :: .undef :: (.p (.int .i64 t12')) :: List.replicate 37 .undef, [(2, .box [.p (.int .u8 b2_b0), .p (.int .u8 b2_b1), .p (.int .u8 b2_b2)]), (4, .box [.p (.int .u8 parts_b0), .p (.int .u8 parts_b1), .p (.int .u8 parts_b2)])]⟩
theorem e46 (C : CallF) (s : ByteArray) : acallI tab C 46 [.p (.str s)] [] =
  bif (((s.size : Nat) : Int) != (7 : Int)) then
    some ([.p (.agg [.int .u8 0, .int .u8 0, .int .u8 0]), .p (.int .i64 6)], [])
  else
    L tab C 46 [] [.lp [1, 1, 1, 0, 1, 0]] (S46_111010 s 0 0 0 0 0 0 0) := by kernel_rfl
theorem e46_111010 (C : CallF) (s' : ByteArray) (t12' : Int) (b2_b0 : Int) (b2_b1 : Int) (b2_b2 : Int) (parts_b0 : Int) (parts_b1 : Int) (parts_b2 : Int) : R tab C 46 [] [.lp [1, 1, 1, 0, 1, 0]] (S46_111010 s' t12' b2_b0 b2_b1 b2_b2 parts_b0 parts_b1 parts_b2) =
  bif (ltI t12' (6 : Int)) then
    bif ((leI (0 : Int) (IntKind.i64.wrap (t12' + (1 : Int)))) && (ltI (IntKind.i64.wrap (t12' + (1 : Int))) (s'.size : Int))) then (C 68 [.p (.list false [.int .u8] [.int .u8 48, .int .u8 49, .int .u8 50, .int .u8 51, .int .u8 52, .int .u8 53, .int .u8 54, .int .u8 55, .int .u8 56, .int .u8 57, .int .u8 97, .int .u8 98, .int .u8 99, .int .u8 100, .int .u8 101, .int .u8 102]), .p (.int .u8 ((s'.data.getD ((IntKind.i64.wrap (t12' + (1 : Int))).toNat) 0).toNat : Int))] []).bind fun r1 =>
    bif (ltI ((r1.1.headD .undef).pv.toInt) (0 : Int)) then
      some ([.p (.agg [.int .u8 0, .int .u8 0, .int .u8 0]), .p (.int .i64 6)], [])
    else
      bif ((leI (0 : Int) (IntKind.i64.wrap (t12'.tdiv (2 : Int)))) && (ltI (IntKind.i64.wrap (t12'.tdiv (2 : Int))) (3 : Int))) then bif (eqI (IntKind.i64.wrap (t12'.tdiv (2 : Int))) 0) then
        bif ((leI (0 : Int) (IntKind.i64.wrap (t12'.tdiv (2 : Int)))) && (ltI (IntKind.i64.wrap (t12'.tdiv (2 : Int))) (3 : Int))) then bif (eqI (IntKind.i64.wrap (t12'.tdiv (2 : Int))) 0) then
          L tab C 46 [] [.lp [1, 1, 1, 0, 1, 0]] (S46_111010 s' (IntKind.i64.wrap (t12' + (1 : Int))) b2_b0 b2_b1 b2_b2 (IntKind.u8.wrap ((IntKind.u8.wrap (parts_b0 * (16 : Int))) + (IntKind.u8.wrap ((r1.1.headD .undef).pv.toInt)))) parts_b1 parts_b2)
        else
          bif (eqI (IntKind.i64.wrap (t12'.tdiv (2 : Int))) 1) then
            L tab C 46 [] [.lp [1, 1, 1, 0, 1, 0]] (S46_111010 s' (IntKind.i64.wrap (t12' + (1 : Int))) b2_b0 b2_b1 b2_b2 parts_b0 (IntKind.u8.wrap ((IntKind.u8.wrap (parts_b0 * (16 : Int))) + (IntKind.u8.wrap ((r1.1.headD .undef).pv.toInt)))) parts_b2)
          else
            bif (eqI (IntKind.i64.wrap (t12'.tdiv (2 : Int))) 2) then L tab C 46 [] [.lp [1, 1, 1, 0, 1, 0]] (S46_111010 s' (IntKind.i64.wrap (t12' + (1 : Int))) b2_b0 b2_b1 b2_b2 parts_b0 parts_b1 (IntKind.u8.wrap ((IntKind.u8.wrap (parts_b0 * (16 : Int))) + (IntKind.u8.wrap ((r1.1.headD .undef).pv.toInt))))) else none else none
      else
        bif (eqI (IntKind.i64.wrap (t12'.tdiv (2 : Int))) 1) then
          bif ((leI (0 : Int) (IntKind.i64.wrap (t12'.tdiv (2 : Int)))) && (ltI (IntKind.i64.wrap (t12'.tdiv (2 : Int))) (3 : Int))) then bif (eqI (IntKind.i64.wrap (t12'.tdiv (2 : Int))) 0) then
            L tab C 46 [] [.lp [1, 1, 1, 0, 1, 0]] (S46_111010 s' (IntKind.i64.wrap (t12' + (1 : Int))) b2_b0 b2_b1 b2_b2 (IntKind.u8.wrap ((IntKind.u8.wrap (parts_b1 * (16 : Int))) + (IntKind.u8.wrap ((r1.1.headD .undef).pv.toInt)))) parts_b1 parts_b2)
          else
            bif (eqI (IntKind.i64.wrap (t12'.tdiv (2 : Int))) 1) then
              L tab C 46 [] [.lp [1, 1, 1, 0, 1, 0]] (S46_111010 s' (IntKind.i64.wrap (t12' + (1 : Int))) b2_b0 b2_b1 b2_b2 parts_b0 (IntKind.u8.wrap ((IntKind.u8.wrap (parts_b1 * (16 : Int))) + (IntKind.u8.wrap ((r1.1.headD .undef).pv.toInt)))) parts_b2)
            else
              bif (eqI (IntKind.i64.wrap (t12'.tdiv (2 : Int))) 2) then L tab C 46 [] [.lp [1, 1, 1, 0, 1, 0]] (S46_111010 s' (IntKind.i64.wrap (t12' + (1 : Int))) b2_b0 b2_b1 b2_b2 parts_b0 parts_b1 (IntKind.u8.wrap ((IntKind.u8.wrap (parts_b1 * (16 : Int))) + (IntKind.u8.wrap ((r1.1.headD .undef).pv.toInt))))) else none else none
        else
          bif (eqI (IntKind.i64.wrap (t12'.tdiv (2 : Int))) 2) then bif ((leI (0 : Int) (IntKind.i64.wrap (t12'.tdiv (2 : Int)))) && (ltI (IntKind.i64.wrap (t12'.tdiv (2 : Int))) (3 : Int))) then bif (eqI (IntKind.i64.wrap (t12'.tdiv (2 : Int))) 0) then
            L tab C 46 [] [.lp [1, 1, 1, 0, 1, 0]] (S46_111010 s' (IntKind.i64.wrap (t12' + (1 : Int))) b2_b0 b2_b1 b2_b2 (IntKind.u8.wrap ((IntKind.u8.wrap (parts_b2 * (16 : Int))) + (IntKind.u8.wrap ((r1.1.headD .undef).pv.toInt)))) parts_b1 parts_b2)
          else
            bif (eqI (IntKind.i64.wrap (t12'.tdiv (2 : Int))) 1) then
              L tab C 46 [] [.lp [1, 1, 1, 0, 1, 0]] (S46_111010 s' (IntKind.i64.wrap (t12' + (1 : Int))) b2_b0 b2_b1 b2_b2 parts_b0 (IntKind.u8.wrap ((IntKind.u8.wrap (parts_b2 * (16 : Int))) + (IntKind.u8.wrap ((r1.1.headD .undef).pv.toInt)))) parts_b2)
            else
              bif (eqI (IntKind.i64.wrap (t12'.tdiv (2 : Int))) 2) then L tab C 46 [] [.lp [1, 1, 1, 0, 1, 0]] (S46_111010 s' (IntKind.i64.wrap (t12' + (1 : Int))) b2_b0 b2_b1 b2_b2 parts_b0 parts_b1 (IntKind.u8.wrap ((IntKind.u8.wrap (parts_b2 * (16 : Int))) + (IntKind.u8.wrap ((r1.1.headD .undef).pv.toInt))))) else none else none else none else none else none
  else
    (C 39 [.p (.agg [.int .u8 parts_b0, .int .u8 parts_b1, .int .u8 parts_b2])] []).bind fun r2 =>
    bif (!(((r2.1.headD .undef).pv.toStr).toList == s'.toList)) then
      some ([.p (.agg [.int .u8 0, .int .u8 0, .int .u8 0]), .p (.int .i64 6)], [])
    else
      some ([.p (.agg [.int .u8 parts_b0, .int .u8 parts_b1, .int .u8 parts_b2]), .p (.int .i64 0)], []) := by kernel_rfl
def S47_11010 (t13_0 : Int) (t13_1 : Int) (t13_2 : Int) (t13_3 : Int) (t13_4 : Int) (t13_5 : Int) (t13_6 : Int) (t13_7 : Int) (t13_8 : Int) (t14' : Int) (c_b0 : Int) (c_b1 : Int) (c_b2 : Int) (c_b3 : Int) (c_b4 : Int) (c_b5 : Int) (c_b6 : Int) (c_b7 : Int) (c_b8 : Int) (c_b9 : Int) (c_b10 : Int) (c_b11 : Int) (c_b12 : Int) (c_b13 : Int) (c_b14 : Int) (c_b15 : Int) (l_b0 : Int) (l_b1 : Int) (l_b2 : Int) (l_b3 : Int) (l_b4 : Int) (l_b5 : Int) (l_b6 : Int) (l_b7 : Int) (l_b8 : Int) : St := ⟨.undef :: (.ptr 1 0 0) :: .undef :: (.ptr 3 0 0) :: .undef :: .undef :: .undef :: .undef :: .undef :: .undef :: .undef :: .undef :: .undef :: (.p (.agg [.int .i64 t13_0, .int .i64 t13_1, .int .i64 t13_2, .int .i64 t13_3, .int .i64 t13_4, .int .i64 t13_5, .int .i64 t13_6, .int .i64 t13_7, .int .i64 t13_8])) :: (.p (.int .i64 t14')) :: List.replicate 72 .undef, [(1, .box [.p (.int .i64 c_b0), .p (.int .i64 c_b1), .p (.int .i64 c_b2), .p (.int .i64 c_b3), .p (.int .i64 c_b4), .p (.int .i64 c_b5), .p (.int .i64 c_b6), .p (.int .i64 c_b7), .p (.int .i64 c_b8), .p (.int .i64 c_b9), .p (.int .i64 c_b10), .p (.int .i64 c_b11), .p (.int .i64 c_b12), .p (.int .i64 c_b13), .p (.int .i64 c_b14), .p (.int .i64 c_b15)]), (3, .box [.p (.int .i64 l_b0), .p (.int .i64 l_b1), .p (.int .i64 l_b2), .p (.int .i64 l_b3), .p (.int .i64 l_b4), .p (.int .i64 l_b5), .p (.int .i64 l_b6), .p (.int .i64 l_b7), .p (.int .i64 l_b8)])]⟩
theorem e47 (C : CallF) (c_0 : Int) (c_1 : Int) (c_2 : Int) (c_3 : Int) (c_4 : Int) (c_5 : Int) (c_6 : Int) (c_7 : Int) (c_8 : Int) (c_9 : Int) (c_10 : Int) (c_11 : Int) (c_12 : Int) (c_13 : Int) (c_14 : Int) (c_15 : Int) : acallI tab C 47 [.p (.agg [.int .i64 c_0, .int .i64 c_1, .int .i64 c_2, .int .i64 c_3, .int .i64 c_4, .int .i64 c_5, .int .i64 c_6, .int .i64 c_7, .int .i64 c_8, .int .i64 c_9, .int .i64 c_10, .int .i64 c_11, .int .i64 c_12, .int .i64 c_13, .int .i64 c_14, .int .i64 c_15])] [] =
  L tab C 47 [] [.lp [1, 1, 0, 1, 0]] (S47_11010 c_3 c_4 c_5 c_6 c_7 c_8 c_9 c_10 c_11 0 c_0 c_1 c_2 c_3 c_4 c_5 c_6 c_7 c_8 c_9 c_10 c_11 c_12 c_13 c_14 c_15 c_3 c_4 c_5 c_6 c_7 c_8 c_9 c_10 c_11) := by kernel_rfl
theorem e47_11010 (C : CallF) (t13_0 : Int) (t13_1 : Int) (t13_2 : Int) (t13_3 : Int) (t13_4 : Int) (t13_5 : Int) (t13_6 : Int) (t13_7 : Int) (t13_8 : Int) (t14' : Int) (c_b0 : Int) (c_b1 : Int) (c_b2 : Int) (c_b3 : Int) (c_b4 : Int) (c_b5 : Int) (c_b6 : Int) (c_b7 : Int) (c_b8 : Int) (c_b9 : Int) (c_b10 : Int) (c_b11 : Int) (c_b12 : Int) (c_b13 : Int) (c_b14 : Int) (c_b15 : Int) (l_b0 : Int) (l_b1 : Int) (l_b2 : Int) (l_b3 : Int) (l_b4 : Int) (l_b5 : Int) (l_b6 : Int) (l_b7 : Int) (l_b8 : Int) : R tab C 47 [] [.lp [1, 1, 0, 1, 0]] (S47_11010 t13_0 t13_1 t13_2 t13_3 t13_4 t13_5 t13_6 t13_7 t13_8 t14' c_b0 c_b1 c_b2 c_b3 c_b4 c_b5 c_b6 c_b7 c_b8 c_b9 c_b10 c_b11 c_b12 c_b13 c_b14 c_b15 l_b0 l_b1 l_b2 l_b3 l_b4 l_b5 l_b6 l_b7 l_b8) =
  bif (ltI t14' (3 : Int)) then
    bif ((leI (0 : Int) t14') && (ltI t14' (3 : Int))) then bif (eqI t14' 0) then
      (C 48 [.p (.int .i64 t13_0), .p (.int .i64 (-100)), .p (.int .i64 100)] []).bind fun r25 =>
      bif (!(r25.1.headD .undef).pv.toBool) then
        some ([.p (.bool false)], [])
      else
        (C 48 [.p (.int .i64 t13_1), .p (.int .i64 (-100)), .p (.int .i64 100)] []).bind fun r26 =>
        bif (!(r26.1.headD .undef).pv.toBool) then
          some ([.p (.bool false)], [])
        else
          (C 48 [.p (.int .i64 t13_2), .p (.int .i64 (-100)), .p (.int .i64 100)] []).bind fun r27 =>
          bif (!(r27.1.headD .undef).pv.toBool) then
            some ([.p (.bool false)], [])
          else
            bif ((leI (0 : Int) ((IntKind.i64.wrap (t14' + (1 : Int))).tmod (3 : Int))) && (ltI ((IntKind.i64.wrap (t14' + (1 : Int))).tmod (3 : Int)) (3 : Int))) then bif (eqI ((IntKind.i64.wrap (t14' + (1 : Int))).tmod (3 : Int)) 0) then
              (C 52 [.p (.agg [.int .i64 t13_0, .int .i64 t13_1, .int .i64 t13_2]), .p (.agg [.int .i64 l_b0, .int .i64 l_b1, .int .i64 l_b2])] []).bind fun r34 =>
              bif ((r34.1.headD .undef).pv.toInt != (0 : Int)) then
                some ([.p (.bool false)], [])
              else
                (C 52 [.p (.agg [.int .i64 t13_0, .int .i64 t13_1, .int .i64 t13_2]), .p (.agg [.int .i64 t13_0, .int .i64 t13_1, .int .i64 t13_2])] []).bind fun r35 =>
                (C 52 [.p (.agg [.int .i64 l_b0, .int .i64 l_b1, .int .i64 l_b2]), .p (.agg [.int .i64 l_b0, .int .i64 l_b1, .int .i64 l_b2])] []).bind fun r36 =>
                bif ((r35.1.headD .undef).pv.toInt != (r36.1.headD .undef).pv.toInt) then
                  some ([.p (.bool false)], [])
                else
                  L tab C 47 [] [.lp [1, 1, 0, 1, 0]] (S47_11010 t13_0 t13_1 t13_2 t13_3 t13_4 t13_5 t13_6 t13_7 t13_8 (IntKind.i64.wrap (t14' + (1 : Int))) c_b0 c_b1 c_b2 c_b3 c_b4 c_b5 c_b6 c_b7 c_b8 c_b9 c_b10 c_b11 c_b12 c_b13 c_b14 c_b15 l_b0 l_b1 l_b2 l_b3 l_b4 l_b5 l_b6 l_b7 l_b8)
            else
              bif (eqI ((IntKind.i64.wrap (t14' + (1 : Int))).tmod (3 : Int)) 1) then
                (C 52 [.p (.agg [.int .i64 t13_0, .int .i64 t13_1, .int .i64 t13_2]), .p (.agg [.int .i64 l_b3, .int .i64 l_b4, .int .i64 l_b5])] []).bind fun r31 =>
                bif ((r31.1.headD .undef).pv.toInt != (0 : Int)) then
                  some ([.p (.bool false)], [])
                else
                  (C 52 [.p (.agg [.int .i64 t13_0, .int .i64 t13_1, .int .i64 t13_2]), .p (.agg [.int .i64 t13_0, .int .i64 t13_1, .int .i64 t13_2])] []).bind fun r32 =>
                  (C 52 [.p (.agg [.int .i64 l_b0, .int .i64 l_b1, .int .i64 l_b2]), .p (.agg [.int .i64 l_b0, .int .i64 l_b1, .int .i64 l_b2])] []).bind fun r33 =>
                  bif ((r32.1.headD .undef).pv.toInt != (r33.1.headD .undef).pv.toInt) then
                    some ([.p (.bool false)], [])
                  else
                    L tab C 47 [] [.lp [1, 1, 0, 1, 0]] (S47_11010 t13_0 t13_1 t13_2 t13_3 t13_4 t13_5 t13_6 t13_7 t13_8 (IntKind.i64.wrap (t14' + (1 : Int))) c_b0 c_b1 c_b2 c_b3 c_b4 c_b5 c_b6 c_b7 c_b8 c_b9 c_b10 c_b11 c_b12 c_b13 c_b14 c_b15 l_b0 l_b1 l_b2 l_b3 l_b4 l_b5 l_b6 l_b7 l_b8)
              else
                bif (eqI ((IntKind.i64.wrap (t14' + (1 : Int))).tmod (3 : Int)) 2) then (C 52 [.p (.agg [.int .i64 t13_0, .int .i64 t13_1, .int .i64 t13_2]), .p (.agg [.int .i64 l_b6, .int .i64 l_b7, .int .i64 l_b8])] []).bind fun r28 =>
                bif ((r28.1.headD .undef).pv.toInt != (0 : Int)) then
                  some ([.p (.bool false)], [])
                else
                  (C 52 [.p (.agg [.int .i64 t13_0, .int .i64 t13_1, .int .i64 t13_2]), .p (.agg [.int .i64 t13_0, .int .i64 t13_1, .int .i64 t13_2])] []).bind fun r29 =>
                  (C 52 [.p (.agg [.int .i64 l_b0, .int .i64 l_b1, .int .i64 l_b2]), .p (.agg [.int .i64 l_b0, .int .i64 l_b1, .int .i64 l_b2])] []).bind fun r30 =>
                  bif ((r29.1.headD .undef).pv.toInt != (r30.1.headD .undef).pv.toInt) then
                    some ([.p (.bool false)], [])
                  else
                    L tab C 47 [] [.lp [1, 1, 0, 1, 0]] (S47_11010 t13_0 t13_1 t13_2 t13_3 t13_4 t13_5 t13_6 t13_7 t13_8 (IntKind.i64.wrap (t14' + (1 : Int))) c_b0 c_b1 c_b2 c_b3 c_b4 c_b5 c_b6 c_b7 c_b8 c_b9 c_b10 c_b11 c_b12 c_b13 c_b14 c_b15 l_b0 l_b1 l_b2 l_b3 l_b4 l_b5 l_b6 l_b7 l_b8) else none else none
    else
      bif (eqI t14' 1) then
        (C 48 [.p (.int .i64 t13_3), .p (.int .i64 (-100)), .p (.int .i64 100)] []).bind fun r13 =>
        bif (!(r13.1.headD .undef).pv.toBool) then
          some ([.p (.bool false)], [])
        else
          (C 48 [.p (.int .i64 t13_4), .p (.int .i64 (-100)), .p (.int .i64 100)] []).bind fun r14 =>
          bif (!(r14.1.headD .undef).pv.toBool) then
            some ([.p (.bool false)], [])
          else
            (C 48 [.p (.int .i64 t13_5), .p (.int .i64 (-100)), .p (.int .i64 100)] []).bind fun r15 =>
            bif (!(r15.1.headD .undef).pv.toBool) then
              some ([.p (.bool false)], [])
            else
              bif ((leI (0 : Int) ((IntKind.i64.wrap (t14' + (1 : Int))).tmod (3 : Int))) && (ltI ((IntKind.i64.wrap (t14' + (1 : Int))).tmod (3 : Int)) (3 : Int))) then bif (eqI ((IntKind.i64.wrap (t14' + (1 : Int))).tmod (3 : Int)) 0) then
                (C 52 [.p (.agg [.int .i64 t13_3, .int .i64 t13_4, .int .i64 t13_5]), .p (.agg [.int .i64 l_b0, .int .i64 l_b1, .int .i64 l_b2])] []).bind fun r22 =>
                bif ((r22.1.headD .undef).pv.toInt != (0 : Int)) then
                  some ([.p (.bool false)], [])
                else
                  (C 52 [.p (.agg [.int .i64 t13_3, .int .i64 t13_4, .int .i64 t13_5]), .p (.agg [.int .i64 t13_3, .int .i64 t13_4, .int .i64 t13_5])] []).bind fun r23 =>
                  (C 52 [.p (.agg [.int .i64 l_b0, .int .i64 l_b1, .int .i64 l_b2]), .p (.agg [.int .i64 l_b0, .int .i64 l_b1, .int .i64 l_b2])] []).bind fun r24 =>
                  bif ((r23.1.headD .undef).pv.toInt != (r24.1.headD .undef).pv.toInt) then
                    some ([.p (.bool false)], [])
                  else
                    L tab C 47 [] [.lp [1, 1, 0, 1, 0]] (S47_11010 t13_0 t13_1 t13_2 t13_3 t13_4 t13_5 t13_6 t13_7 t13_8 (IntKind.i64.wrap (t14' + (1 : Int))) c_b0 c_b1 c_b2 c_b3 c_b4 c_b5 c_b6 c_b7 c_b8 c_b9 c_b10 c_b11 c_b12 c_b13 c_b14 c_b15 l_b0 l_b1 l_b2 l_b3 l_b4 l_b5 l_b6 l_b7 l_b8)
              else
                bif (eqI ((IntKind.i64.wrap (t14' + (1 : Int))).tmod (3 : Int)) 1) then
                  (C 52 [.p (.agg [.int .i64 t13_3, .int .i64 t13_4, .int .i64 t13_5]), .p (.agg [.int .i64 l_b3, .int .i64 l_b4, .int .i64 l_b5])] []).bind fun r19 =>
                  bif ((r19.1.headD .undef).pv.toInt != (0 : Int)) then
                    some ([.p (.bool false)], [])
                  else
                    (C 52 [.p (.agg [.int .i64 t13_3, .int .i64 t13_4, .int .i64 t13_5]), .p (.agg [.int .i64 t13_3, .int .i64 t13_4, .int .i64 t13_5])] []).bind fun r20 =>
                    (C 52 [.p (.agg [.int .i64 l_b0, .int .i64 l_b1, .int .i64 l_b2]), .p (.agg [.int .i64 l_b0, .int .i64 l_b1, .int .i64 l_b2])] []).bind fun r21 =>
                    bif ((r20.1.headD .undef).pv.toInt != (r21.1.headD .undef).pv.toInt) then
                      some ([.p (.bool false)], [])
                    else
                      L tab C 47 [] [.lp [1, 1, 0, 1, 0]] (S47_11010 t13_0 t13_1 t13_2 t13_3 t13_4 t13_5 t13_6 t13_7 t13_8 (IntKind.i64.wrap (t14' + (1 : Int))) c_b0 c_b1 c_b2 c_b3 c_b4 c_b5 c_b6 c_b7 c_b8 c_b9 c_b10 c_b11 c_b12 c_b13 c_b14 c_b15 l_b0 l_b1 l_b2 l_b3 l_b4 l_b5 l_b6 l_b7 l_b8)
                else
                  bif (eqI ((IntKind.i64.wrap (t14' + (1 : Int))).tmod (3 : Int)) 2) then (C 52 [.p (.agg [.int .i64 t13_3, .int .i64 t13_4, .int .i64 t13_5]), .p (.agg [.int .i64 l_b6, .int .i64 l_b7, .int .i64 l_b8])] []).bind fun r16 =>
                  bif ((r16.1.headD .undef).pv.toInt != (0 : Int)) then
                    some ([.p (.bool false)], [])
                  else
                    (C 52 [.p (.agg [.int .i64 t13_3, .int .i64 t13_4, .int .i64 t13_5]), .p (.agg [.int .i64 t13_3, .int .i64 t13_4, .int .i64 t13_5])] []).bind fun r17 =>
                    (C 52 [.p (.agg [.int .i64 l_b0, .int .i64 l_b1, .int .i64 l_b2]), .p (.agg [.int .i64 l_b0, .int .i64 l_b1, .int .i64 l_b2])] []).bind fun r18 =>
                    bif ((r17.1.headD .undef).pv.toInt != (r18.1.headD .undef).pv.toInt) then
                      some ([.p (.bool false)], [])
                    else
                      L tab C 47 [] [.lp [1, 1, 0, 1, 0]] (S47_11010 t13_0 t13_1 t13_2 t13_3 t13_4 t13_5 t13_6 t13_7 t13_8 (IntKind.i64.wrap (t14' + (1 : Int))) c_b0 c_b1 c_b2 c_b3 c_b4 c_b5 c_b6 c_b7 c_b8 c_b9 c_b10 c_b11 c_b12 c_b13 c_b14 c_b15 l_b0 l_b1 l_b2 l_b3 l_b4 l_b5 l_b6 l_b7 l_b8) else none else none
      else
        bif (eqI t14' 2) then (C 48 [.p (.int .i64 t13_6), .p (.int .i64 (-100)), .p (.int .i64 100)] []).bind fun r1 =>
        bif (!(r1.1.headD .undef).pv.toBool) then
          some ([.p (.bool false)], [])
        else
          (C 48 [.p (.int .i64 t13_7), .p (.int .i64 (-100)), .p (.int .i64 100)] []).bind fun r2 =>
          bif (!(r2.1.headD .undef).pv.toBool) then
            some ([.p (.bool false)], [])
          else
            (C 48 [.p (.int .i64 t13_8), .p (.int .i64 (-100)), .p (.int .i64 100)] []).bind fun r3 =>
            bif (!(r3.1.headD .undef).pv.toBool) then
              some ([.p (.bool false)], [])
            else
              bif ((leI (0 : Int) ((IntKind.i64.wrap (t14' + (1 : Int))).tmod (3 : Int))) && (ltI ((IntKind.i64.wrap (t14' + (1 : Int))).tmod (3 : Int)) (3 : Int))) then bif (eqI ((IntKind.i64.wrap (t14' + (1 : Int))).tmod (3 : Int)) 0) then
                (C 52 [.p (.agg [.int .i64 t13_6, .int .i64 t13_7, .int .i64 t13_8]), .p (.agg [.int .i64 l_b0, .int .i64 l_b1, .int .i64 l_b2])] []).bind fun r10 =>
                bif ((r10.1.headD .undef).pv.toInt != (0 : Int)) then
                  some ([.p (.bool false)], [])
                else
                  (C 52 [.p (.agg [.int .i64 t13_6, .int .i64 t13_7, .int .i64 t13_8]), .p (.agg [.int .i64 t13_6, .int .i64 t13_7, .int .i64 t13_8])] []).bind fun r11 =>
                  (C 52 [.p (.agg [.int .i64 l_b0, .int .i64 l_b1, .int .i64 l_b2]), .p (.agg [.int .i64 l_b0, .int .i64 l_b1, .int .i64 l_b2])] []).bind fun r12 =>
                  bif ((r11.1.headD .undef).pv.toInt != (r12.1.headD .undef).pv.toInt) then
                    some ([.p (.bool false)], [])
                  else
                    L tab C 47 [] [.lp [1, 1, 0, 1, 0]] (S47_11010 t13_0 t13_1 t13_2 t13_3 t13_4 t13_5 t13_6 t13_7 t13_8 (IntKind.i64.wrap (t14' + (1 : Int))) c_b0 c_b1 c_b2 c_b3 c_b4 c_b5 c_b6 c_b7 c_b8 c_b9 c_b10 c_b11 c_b12 c_b13 c_b14 c_b15 l_b0 l_b1 l_b2 l_b3 l_b4 l_b5 l_b6 l_b7 l_b8)
              else
                bif (eqI ((IntKind.i64.wrap (t14' + (1 : Int))).tmod (3 : Int)) 1) then
                  (C 52 [.p (.agg [.int .i64 t13_6, .int .i64 t13_7, .int .i64 t13_8]), .p (.agg [.int .i64 l_b3, .int .i64 l_b4, .int .i64 l_b5])] []).bind fun r7 =>
                  bif ((r7.1.headD .undef).pv.toInt != (0 : Int)) then
                    some ([.p (.bool false)], [])
                  else
                    (C 52 [.p (.agg [.int .i64 t13_6, .int .i64 t13_7, .int .i64 t13_8]), .p (.agg [.int .i64 t13_6, .int .i64 t13_7, .int .i64 t13_8])] []).bind fun r8 =>
                    (C 52 [.p (.agg [.int .i64 l_b0, .int .i64 l_b1, .int .i64 l_b2]), .p (.agg [.int .i64 l_b0, .int .i64 l_b1, .int .i64 l_b2])] []).bind fun r9 =>
                    bif ((r8.1.headD .undef).pv.toInt != (r9.1.headD .undef).pv.toInt) then
                      some ([.p (.bool false)], [])
                    else
                      L tab C 47 [] [.lp [1, 1, 0, 1, 0]] (S47_11010 t13_0 t13_1 t13_2 t13_3 t13_4 t13_5 t13_6 t13_7 t13_8 (IntKind.i64.wrap (t14' + (1 : Int))) c_b0 c_b1 c_b2 c_b3 c_b4 c_b5 c_b6 c_b7 c_b8 c_b9 c_b10 c_b11 c_b12 c_b13 c_b14 c_b15 l_b0 l_b1 l_b2 l_b3 l_b4 l_b5 l_b6 l_b7 l_b8)
                else
                  bif (eqI ((IntKind.i64.wrap (t14' + (1 : Int))).tmod (3 : Int)) 2) then (C 52 [.p (.agg [.int .i64 t13_6, .int .i64 t13_7, .int .i64 t13_8]), .p (.agg [.int .i64 l_b6, .int .i64 l_b7, .int .i64 l_b8])] []).bind fun r4 =>
                  bif ((r4.1.headD .undef).pv.toInt != (0 : Int)) then
                    some ([.p (.bool false)], [])
                  else
                    (C 52 [.p (.agg [.int .i64 t13_6, .int .i64 t13_7, .int .i64 t13_8]), .p (.agg [.int .i64 t13_6, .int .i64 t13_7, .int .i64 t13_8])] []).bind fun r5 =>
                    (C 52 [.p (.agg [.int .i64 l_b0, .int .i64 l_b1, .int .i64 l_b2]), .p (.agg [.int .i64 l_b0, .int .i64 l_b1, .int .i64 l_b2])] []).bind fun r6 =>
                    bif ((r5.1.headD .undef).pv.toInt != (r6.1.headD .undef).pv.toInt) then
                      some ([.p (.bool false)], [])
                    else
                      L tab C 47 [] [.lp [1, 1, 0, 1, 0]] (S47_11010 t13_0 t13_1 t13_2 t13_3 t13_4 t13_5 t13_6 t13_7 t13_8 (IntKind.i64.wrap (t14' + (1 : Int))) c_b0 c_b1 c_b2 c_b3 c_b4 c_b5 c_b6 c_b7 c_b8 c_b9 c_b10 c_b11 c_b12 c_b13 c_b14 c_b15 l_b0 l_b1 l_b2 l_b3 l_b4 l_b5 l_b6 l_b7 l_b8) else none else none else none else none
  else
    (C 52 [.p (.agg [.int .i64 c_b6, .int .i64 c_b7, .int .i64 c_b8]), .p (.agg [.int .i64 c_b6, .int .i64 c_b7, .int .i64 c_b8])] []).bind fun r37 =>
    bif (gtI ((r37.1.headD .undef).pv.toInt) (0 : Int)) then
      (C 51 [.p (.agg [.int .i64 c_b0, .int .i64 c_b1, .int .i64 c_b2])] []).bind fun r38 =>
      bif (r38.1.headD .undef).pv.toBool then
        (C 48 [.p (.int .i64 c_b12), .p (.int .i64 1), .p (.int .i64 4096)] []).bind fun r39 =>
        bif (r39.1.headD .undef).pv.toBool then
          (C 48 [.p (.int .i64 c_b13), .p (.int .i64 1), .p (.int .i64 4096)] []).bind fun r40 =>
          bif (r40.1.headD .undef).pv.toBool then
            (C 48 [.p (.int .i64 c_b14), .p (.int .i64 1), .p (.int .i64 4096)] []).bind fun r41 =>
            bif (r41.1.headD .undef).pv.toBool then
              (C 48 [.p (.int .i64 c_b15), .p (.int .i64 1), .p (.int .i64 1073741824)] []).bind fun r42 =>
              some ([.p (.bool ((r42.1.headD .undef).pv.toBool))], [])
            else
              some ([.p (.bool false)], [])
          else
            some ([.p (.bool false)], [])
        else
          some ([.p (.bool false)], [])
      else
        some ([.p (.bool false)], [])
    else
      some ([.p (.bool false)], []) := by kernel_rfl
theorem e48 (C : CallF) (n_ : Int) (low : Int) (high : Int) : acallI tab C 48 [.p (.int .i64 n_), .p (.int .i64 low), .p (.int .i64 high)] [] =
  bif (leI low n_) then
    some ([.p (.bool (leI n_ high))], [])
  else
    some ([.p (.bool false)], []) := by kernel_rfl
theorem e49 (C : CallF) (s : List PV) : acallI tab C 49 [.p (.list true [.int .i64, .int .i64, .int .i64] s), .p (.fn 50 [])] [] =
  (C 69 [.p (.list true [.int .i64, .int .i64, .int .i64] s), .p (.fn 50 [])] []).bind fun r1 =>
  some ([.p (.bool (geI ((r1.1.headD .undef).pv.toInt) (0 : Int)))], []) := by kernel_rfl
theorem e50 (C : CallF) (p_0 : Int) (p_1 : Int) (p_2 : Int) : acallI tab C 50 [.p (.agg [.int .i64 p_0, .int .i64 p_1, .int .i64 p_2])] [] =
  (C 51 [.p (.agg [.int .i64 p_0, .int .i64 p_1, .int .i64 p_2])] []).bind fun r1 =>
  some ([.p (.bool (!(r1.1.headD .undef).pv.toBool))], []) := by kernel_rfl
theorem e51 (C : CallF) (v_0 : Int) (v_1 : Int) (v_2 : Int) : acallI tab C 51 [.p (.agg [.int .i64 v_0, .int .i64 v_1, .int .i64 v_2])] [] =
  (C 70 [.p (.int .i64 1048576), .p (.list false [.int .i64] [.int .i64 v_0, .int .i64 v_1, .int .i64 v_2])] []).bind fun r1 =>
  some ([.p (.bool ((r1.1.headD .undef).pv.toBool))], []) := by kernel_rfl
theorem e52 (C : CallF) (a_0 : Int) (a_1 : Int) (a_2 : Int) (b_0 : Int) (b_1 : Int) (b_2 : Int) : acallI tab C 52 [.p (.agg [.int .i64 a_0, .int .i64 a_1, .int .i64 a_2]), .p (.agg [.int .i64 b_0, .int .i64 b_1, .int .i64 b_2])] [] =
  some ([.p (.int .i64 (IntKind.i64.wrap ((IntKind.i64.wrap ((IntKind.i64.wrap (a_0 * b_0)) + (IntKind.i64.wrap (a_1 * b_1)))) + (IntKind.i64.wrap (a_2 * b_2)))))], []) := by kernel_rfl
theorem e53 (C : CallF) (a : Int) (b : Int) : acallI tab C 53 [.p (.int .i64 a), .p (.int .i64 b)] [] =
  bif (!(eqI b (0 : Int))) then bif (!(eqI b (0 : Int))) then bif (!(eqI b (0 : Int))) then some ([.p (.int .i64 (IntKind.i64.wrap ((IntKind.i64.wrap (a - ((IntKind.i64.wrap ((a.tmod b) + b)).tmod b))).tdiv b)))], []) else none else none else none := by kernel_rfl
def S54_11010 (n_' : Int) (r_' : Int) (bit' : Int) : St := ⟨(.p (.int .i64 n_')) :: .undef :: .undef :: (.p (.int .i64 r_')) :: (.p (.int .i64 bit')) :: List.replicate 17 .undef, []⟩
theorem e54 (C : CallF) (n_ : Int) : acallI tab C 54 [.p (.int .i64 n_)] [] =
  L tab C 54 [] [.lp [1, 1, 0, 1, 0]] (S54_11010 n_ 0 1073741824) := by kernel_rfl
theorem e54_11010 (C : CallF) (n_' : Int) (r_' : Int) (bit' : Int) : R tab C 54 [] [.lp [1, 1, 0, 1, 0]] (S54_11010 n_' r_' bit') =
  bif (gtI bit' (0 : Int)) then
    bif (leI (IntKind.i64.wrap ((IntKind.i64.wrap (r_' + bit')) * (IntKind.i64.wrap (r_' + bit')))) n_') then
      L tab C 54 [] [.lp [1, 1, 0, 1, 0]] (S54_11010 n_' (IntKind.i64.wrap (r_' + bit')) (bit'.fdiv (2 ^ 1)))
    else
      L tab C 54 [] [.lp [1, 1, 0, 1, 0]] (S54_11010 n_' r_' (bit'.fdiv (2 ^ 1)))
  else
    some ([.p (.int .i64 r_')], []) := by kernel_rfl
def S55_1100 (data_o : Nat) (data_l : Nat) (n_' : Int) (blockSize' : Int) (a' : Int) (b' : Int) (b100000_b : List PV) : St := ⟨(.slice 100000 5 data_o data_l) :: (.p (.int .i64 n_')) :: (.p (.fn 32 [])) :: .undef :: .undef :: .undef :: (.p (.int .i64 blockSize')) :: (.p (.int .i64 a')) :: (.p (.int .i64 b')) :: List.replicate 54 .undef, [(100000, .arr true [.int .i64, .int .i64, .int .i64, .int .i64, .int .i64] b100000_b)]⟩
def S55_11110 (data_o : Nat) (data_l : Nat) (n_' : Int) (blockSize' : Int) (b100000_b : List PV) : St := ⟨(.slice 100000 5 data_o data_l) :: (.p (.int .i64 n_')) :: (.p (.fn 32 [])) :: .undef :: .undef :: .undef :: (.p (.int .i64 blockSize')) :: List.replicate 56 .undef, [(100000, .arr true [.int .i64, .int .i64, .int .i64, .int .i64, .int .i64] b100000_b)]⟩
def S55_11110_10100 (data_o : Nat) (data_l : Nat) (n_' : Int) (blockSize' : Int) (a' : Int) (b' : Int) (b100000_b : List PV) : St := ⟨(.slice 100000 5 data_o data_l) :: (.p (.int .i64 n_')) :: (.p (.fn 32 [])) :: .undef :: .undef :: .undef :: (.p (.int .i64 blockSize')) :: (.p (.int .i64 a')) :: (.p (.int .i64 b')) :: List.replicate 54 .undef, [(100000, .arr true [.int .i64, .int .i64, .int .i64, .int .i64, .int .i64] b100000_b)]⟩
theorem e55 (C : CallF) (data_o : Nat) (data_l : Nat) (data_b : List PV) (n_ : Int) : acallI tab C 55 [.slice 100000 5 data_o data_l, .p (.int .i64 n_), .p (.fn 32 [])] [.arr true [.int .i64, .int .i64, .int .i64, .int .i64, .int .i64] data_b] =
  L tab C 55 [.arr true [.int .i64, .int .i64, .int .i64, .int .i64, .int .i64] data_b] [.lp [1, 1, 0, 0]] (S55_1100 data_o data_l n_ 20 0 20 data_b) := by kernel_rfl
theorem e55_1100 (C : CallF) (data_b : List PV) (data_o : Nat) (data_l : Nat) (n_' : Int) (blockSize' : Int) (a' : Int) (b' : Int) (b100000_b : List PV) : R tab C 55 [.arr true [.int .i64, .int .i64, .int .i64, .int .i64, .int .i64] data_b] [.lp [1, 1, 0, 0]] (S55_1100 data_o data_l n_' blockSize' a' b' b100000_b) =
  bif (leI b' n_') then
    (C 71 [.slice 100000 5 data_o data_l, .p (.int .i64 a'), .p (.int .i64 b'), .p (.fn 32 [])] [.arr true [.int .i64, .int .i64, .int .i64, .int .i64, .int .i64] b100000_b]).bind fun r1 =>
    L tab C 55 [.arr true [.int .i64, .int .i64, .int .i64, .int .i64, .int .i64] data_b] [.lp [1, 1, 0, 0]] (S55_1100 data_o data_l n_' blockSize' b' (IntKind.i64.wrap (b' + blockSize')) ((r1.2.headD (.box [])).xs))
  else
    (C 71 [.slice 100000 5 data_o data_l, .p (.int .i64 a'), .p (.int .i64 n_'), .p (.fn 32 [])] [.arr true [.int .i64, .int .i64, .int .i64, .int .i64, .int .i64] b100000_b]).bind fun r2 =>
    L tab C 55 [.arr true [.int .i64, .int .i64, .int .i64, .int .i64, .int .i64] data_b] [.lp [1, 1, 1, 1, 0]] (S55_11110 data_o data_l n_' blockSize' ((r2.2.headD (.box [])).xs)) := by kernel_rfl
theorem e55_11110 (C : CallF) (data_b : List PV) (data_o : Nat) (data_l : Nat) (n_' : Int) (blockSize' : Int) (b100000_b : List PV) : R tab C 55 [.arr true [.int .i64, .int .i64, .int .i64, .int .i64, .int .i64] data_b] [.lp [1, 1, 1, 1, 0]] (S55_11110 data_o data_l n_' blockSize' b100000_b) =
  bif (ltI blockSize' n_') then
    L tab C 55 [.arr true [.int .i64, .int .i64, .int .i64, .int .i64, .int .i64] data_b] [.lp [1, 1, 1, 1, 0], .lp [1, 0, 1, 0, 0]] (S55_11110_10100 data_o data_l n_' blockSize' 0 (IntKind.i64.wrap ((2 : Int) * blockSize')) b100000_b)
  else
    some ([], [.arr true [.int .i64, .int .i64, .int .i64, .int .i64, .int .i64] b100000_b]) := by kernel_rfl
theorem e55_11110_10100 (C : CallF) (data_b : List PV) (data_o : Nat) (data_l : Nat) (n_' : Int) (blockSize' : Int) (a' : Int) (b' : Int) (b100000_b : List PV) : R tab C 55 [.arr true [.int .i64, .int .i64, .int .i64, .int .i64, .int .i64] data_b] [.lp [1, 1, 1, 1, 0], .lp [1, 0, 1, 0, 0]] (S55_11110_10100 data_o data_l n_' blockSize' a' b' b100000_b) =
  bif (leI b' n_') then
    (C 72 [.slice 100000 5 data_o data_l, .p (.int .i64 a'), .p (.int .i64 (IntKind.i64.wrap (a' + blockSize'))), .p (.int .i64 b'), .p (.fn 32 [])] [.arr true [.int .i64, .int .i64, .int .i64, .int .i64, .int .i64] b100000_b]).bind fun r1 =>
    L tab C 55 [.arr true [.int .i64, .int .i64, .int .i64, .int .i64, .int .i64] data_b] [.lp [1, 1, 1, 1, 0], .lp [1, 0, 1, 0, 0]] (S55_11110_10100 data_o data_l n_' blockSize' b' (IntKind.i64.wrap (b' + (IntKind.i64.wrap ((2 : Int) * blockSize')))) ((r1.2.headD (.box [])).xs))
  else
    bif (ltI (IntKind.i64.wrap (a' + blockSize')) n_') then
      (C 72 [.slice 100000 5 data_o data_l, .p (.int .i64 a'), .p (.int .i64 (IntKind.i64.wrap (a' + blockSize'))), .p (.int .i64 n_'), .p (.fn 32 [])] [.arr true [.int .i64, .int .i64, .int .i64, .int .i64, .int .i64] b100000_b]).bind fun r2 =>
      L tab C 55 [.arr true [.int .i64, .int .i64, .int .i64, .int .i64, .int .i64] data_b] [.lp [1, 1, 1, 1, 0]] (S55_11110 data_o data_l n_' (IntKind.i64.wrap (blockSize' * (2 : Int))) ((r2.2.headD (.box [])).xs))
    else
      L tab C 55 [.arr true [.int .i64, .int .i64, .int .i64, .int .i64, .int .i64] data_b] [.lp [1, 1, 1, 1, 0]] (S55_11110 data_o data_l n_' (IntKind.i64.wrap (blockSize' * (2 : Int))) b100000_b) := by kernel_rfl
theorem e56 (C : CallF) (c_0 : Int) (c_1 : Int) (c_2 : Int) (c_3 : Int) (c_4 : Int) (c_5 : Int) (c_6 : Int) (c_7 : Int) (c_8 : Int) (c_9 : Int) (c_10 : Int) (c_11 : Int) (c_12 : Int) (c_13 : Int) (c_14 : Int) (c_15 : Int) : acallI tab C 56 [.p (.agg [.int .i64 c_0, .int .i64 c_1, .int .i64 c_2, .int .i64 c_3, .int .i64 c_4, .int .i64 c_5, .int .i64 c_6, .int .i64 c_7, .int .i64 c_8, .int .i64 c_9, .int .i64 c_10, .int .i64 c_11, .int .i64 c_12, .int .i64 c_13, .int .i64 c_14, .int .i64 c_15])] [] =
  (C 58 [.p (.agg [.int .i64 c_0, .int .i64 c_1, .int .i64 c_2])] []).bind fun r1 =>
  bif (!(r1.1.headD .undef).pv.toBool) then
    some ([.p (.bool false)], [])
  else
    (C 73 [.p (.agg [.int .i64 c_3, .int .i64 c_4, .int .i64 c_5])] []).bind fun r2 =>
    bif (!(r2.1.headD .undef).pv.toBool) then
      some ([.p (.bool false)], [])
    else
      (C 73 [.p (.agg [.int .i64 c_6, .int .i64 c_7, .int .i64 c_8])] []).bind fun r3 =>
      bif (!(r3.1.headD .undef).pv.toBool) then
        some ([.p (.bool false)], [])
      else
        (C 73 [.p (.agg [.int .i64 c_9, .int .i64 c_10, .int .i64 c_11])] []).bind fun r4 =>
        bif (!(r4.1.headD .undef).pv.toBool) then
          some ([.p (.bool false)], [])
        else
          (C 59 [.p (.agg [.int .i64 c_3, .int .i64 c_4, .int .i64 c_5]), .p (.agg [.int .i64 c_3, .int .i64 c_4, .int .i64 c_5])] []).bind fun r5 =>
          bif ((r5.1.headD .undef).pv.toInt == (0 : Int)) then
            some ([.p (.bool false)], [])
          else
            (C 59 [.p (.agg [.int .i64 c_6, .int .i64 c_7, .int .i64 c_8]), .p (.agg [.int .i64 c_6, .int .i64 c_7, .int .i64 c_8])] []).bind fun r6 =>
            bif ((r6.1.headD .undef).pv.toInt != (r5.1.headD .undef).pv.toInt) then
              some ([.p (.bool false)], [])
            else
              (C 59 [.p (.agg [.int .i64 c_9, .int .i64 c_10, .int .i64 c_11]), .p (.agg [.int .i64 c_9, .int .i64 c_10, .int .i64 c_11])] []).bind fun r7 =>
              bif ((r7.1.headD .undef).pv.toInt != (r5.1.headD .undef).pv.toInt) then
                some ([.p (.bool false)], [])
              else
                (C 59 [.p (.agg [.int .i64 c_3, .int .i64 c_4, .int .i64 c_5]), .p (.agg [.int .i64 c_6, .int .i64 c_7, .int .i64 c_8])] []).bind fun r8 =>
                bif ((r8.1.headD .undef).pv.toInt != (0 : Int)) then
                  some ([.p (.bool false)], [])
                else
                  (C 59 [.p (.agg [.int .i64 c_3, .int .i64 c_4, .int .i64 c_5]), .p (.agg [.int .i64 c_9, .int .i64 c_10, .int .i64 c_11])] []).bind fun r9 =>
                  bif ((r9.1.headD .undef).pv.toInt != (0 : Int)) then
                    some ([.p (.bool false)], [])
                  else
                    (C 59 [.p (.agg [.int .i64 c_6, .int .i64 c_7, .int .i64 c_8]), .p (.agg [.int .i64 c_9, .int .i64 c_10, .int .i64 c_11])] []).bind fun r10 =>
                    bif ((r10.1.headD .undef).pv.toInt != (0 : Int)) then
                      some ([.p (.bool false)], [])
                    else
                      (C 57 [.p (.int .i64 c_12), .p (.int .i64 1), .p (.int .i64 4096)] []).bind fun r11 =>
                      bif (r11.1.headD .undef).pv.toBool then
                        (C 57 [.p (.int .i64 c_13), .p (.int .i64 1), .p (.int .i64 4096)] []).bind fun r12 =>
                        bif (r12.1.headD .undef).pv.toBool then
                          (C 57 [.p (.int .i64 c_14), .p (.int .i64 1), .p (.int .i64 4096)] []).bind fun r13 =>
                          bif (r13.1.headD .undef).pv.toBool then
                            (C 57 [.p (.int .i64 c_15), .p (.int .i64 1), .p (.int .i64 1073741824)] []).bind fun r14 =>
                            some ([.p (.bool ((r14.1.headD .undef).pv.toBool))], [])
                          else
                            some ([.p (.bool false)], [])
                        else
                          some ([.p (.bool false)], [])
                      else
                        some ([.p (.bool false)], []) := by kernel_rfl
theorem e57 (C : CallF) (n_ : Int) (low : Int) (high : Int) : acallI tab C 57 [.p (.int .i64 n_), .p (.int .i64 low), .p (.int .i64 high)] [] =
  bif (geI n_ low) then
    some ([.p (.bool (leI n_ high))], [])
  else
    some ([.p (.bool false)], []) := by kernel_rfl
theorem e58 (C : CallF) (v_0 : Int) (v_1 : Int) (v_2 : Int) : acallI tab C 58 [.p (.agg [.int .i64 v_0, .int .i64 v_1, .int .i64 v_2])] [] =
  (C 74 [.p (.int .i64 v_0), .p (.int .i64 (-1048576)), .p (.int .i64 1048576)] []).bind fun r1 =>
  bif (r1.1.headD .undef).pv.toBool then
    (C 74 [.p (.int .i64 v_1), .p (.int .i64 (-1048576)), .p (.int .i64 1048576)] []).bind fun r2 =>
    bif (r2.1.headD .undef).pv.toBool then
      (C 74 [.p (.int .i64 v_2), .p (.int .i64 (-1048576)), .p (.int .i64 1048576)] []).bind fun r3 =>
      some ([.p (.bool ((r3.1.headD .undef).pv.toBool))], [])
    else
      some ([.p (.bool false)], [])
  else
    some ([.p (.bool false)], []) := by kernel_rfl
theorem e59 (C : CallF) (a_0 : Int) (a_1 : Int) (a_2 : Int) (b_0 : Int) (b_1 : Int) (b_2 : Int) : acallI tab C 59 [.p (.agg [.int .i64 a_0, .int .i64 a_1, .int .i64 a_2]), .p (.agg [.int .i64 b_0, .int .i64 b_1, .int .i64 b_2])] [] =
  some ([.p (.int .i64 (IntKind.i64.wrap ((IntKind.i64.wrap ((IntKind.i64.wrap (a_0 * b_0)) + (IntKind.i64.wrap (a_1 * b_1)))) + (IntKind.i64.wrap (a_2 * b_2)))))], []) := by kernel_rfl
theorem e60 (C : CallF) (a : Int) (b : Int) : acallI tab C 60 [.p (.int .i64 a), .p (.int .i64 b)] [] =
  bif (!(eqI b (0 : Int))) then bif (!(eqI b (0 : Int))) then bif (ltI (a.tmod b) (0 : Int)) then
    some ([.p (.int .i64 (IntKind.i64.wrap ((IntKind.i64.wrap (a.tdiv b)) - (1 : Int))))], [])
  else
    some ([.p (.int .i64 (IntKind.i64.wrap (a.tdiv b)))], []) else none else none := by kernel_rfl
theorem e63 (C : CallF) (s : ByteArray) (suffix : ByteArray) : acallI tab C 63 [.p (.str s), .p (.str suffix)] [] =
  bif (geI ((s.size : Nat) : Int) ((suffix.size : Nat) : Int)) then
    bif ((leI (0 : Int) (IntKind.i64.wrap (((s.size : Nat) : Int) - ((suffix.size : Nat) : Int)))) && ((leI (IntKind.i64.wrap (((s.size : Nat) : Int) - ((suffix.size : Nat) : Int))) (s.size : Int)) && (leI (s.size : Int) (s.size : Int)))) then some ([.p (.bool ((s.extract ((IntKind.i64.wrap (((s.size : Nat) : Int) - ((suffix.size : Nat) : Int))).toNat) ((s.size : Int).toNat)).toList == suffix.toList))], []) else none
  else
    some ([.p (.bool false)], []) := by kernel_rfl
def S68_1010 (s' : List PV) (v' : Int) (t7' : Int) (t8' : Int) : St := ⟨(.p (.list false [.int .u8] s')) :: (.p (.int .u8 v')) :: .undef :: .undef :: .undef :: .undef :: .undef :: (.p (.int .i64 t7')) :: (.p (.int .i64 t8')) :: List.replicate 10 .undef, []⟩
theorem e68 (C : CallF) (s : List PV) (v : Int) : acallI tab C 68 [.p (.list false [.int .u8] s), .p (.int .u8 v)] [] =
  L tab C 68 [] [.lp [1, 0, 1, 0]] (S68_1010 s v ((s.length : Nat) : Int) 0) := by kernel_rfl
theorem e68_1010 (C : CallF) (s' : List PV) (v' : Int) (t7' : Int) (t8' : Int) : R tab C 68 [] [.lp [1, 0, 1, 0]] (S68_1010 s' v' t7' t8') =
  bif (ltI t8' t7') then
    bif ((leI (0 : Int) t8') && (ltI t8' ((s'.length : Nat) : Int))) then bif (v' == ((s'.getD t8'.toNat .nil).cell 0).toInt) then
      some ([.p (.int .i64 t8')], [])
    else
      L tab C 68 [] [.lp [1, 0, 1, 0]] (S68_1010 s' v' t7' (IntKind.i64.wrap (t8' + (1 : Int)))) else none
  else
    some ([.p (.int .i64 (-1))], []) := by kernel_rfl
def S69_1010 (s' : List PV) (t7' : Int) (t8' : Int) : St := ⟨(.p (.list true [.int .i64, .int .i64, .int .i64] s')) :: (.p (.fn 50 [])) :: .undef :: .undef :: .undef :: .undef :: .undef :: (.p (.int .i64 t7')) :: (.p (.int .i64 t8')) :: List.replicate 10 .undef, []⟩
theorem e69 (C : CallF) (s : List PV) : acallI tab C 69 [.p (.list true [.int .i64, .int .i64, .int .i64] s), .p (.fn 50 [])] [] =
  L tab C 69 [] [.lp [1, 0, 1, 0]] (S69_1010 s ((s.length : Nat) : Int) 0) := by kernel_rfl
theorem e69_1010 (C : CallF) (s' : List PV) (t7' : Int) (t8' : Int) : R tab C 69 [] [.lp [1, 0, 1, 0]] (S69_1010 s' t7' t8') =
  bif (ltI t8' t7') then
    bif ((leI (0 : Int) t8') && (ltI t8' ((s'.length : Nat) : Int))) then (C 50 [.p (.agg [.int .i64 (((s'.getD t8'.toNat .nil).cell 0).toInt), .int .i64 (((s'.getD t8'.toNat .nil).cell 1).toInt), .int .i64 (((s'.getD t8'.toNat .nil).cell 2).toInt)])] []).bind fun r1 =>
    bif (r1.1.headD .undef).pv.toBool then
      some ([.p (.int .i64 t8')], [])
    else
      L tab C 69 [] [.lp [1, 0, 1, 0]] (S69_1010 s' t7' (IntKind.i64.wrap (t8' + (1 : Int)))) else none
  else
    some ([.p (.int .i64 (-1))], []) := by kernel_rfl
def S70_1010 (most' : Int) (t7' : List PV) (t8' : Int) (t9' : Int) : St := ⟨(.p (.int .i64 most')) :: .undef :: .undef :: .undef :: .undef :: .undef :: .undef :: (.p (.list false [.int .i64] t7')) :: (.p (.int .i64 t8')) :: (.p (.int .i64 t9')) :: List.replicate 13 .undef, []⟩
theorem e70 (C : CallF) (most : Int) (numbers : List PV) : acallI tab C 70 [.p (.int .i64 most), .p (.list false [.int .i64] numbers)] [] =
  L tab C 70 [] [.lp [1, 0, 1, 0]] (S70_1010 most numbers ((numbers.length : Nat) : Int) 0) := by kernel_rfl
theorem e70_1010 (C : CallF) (most' : Int) (t7' : List PV) (t8' : Int) (t9' : Int) : R tab C 70 [] [.lp [1, 0, 1, 0]] (S70_1010 most' t7' t8' t9') =
  bif (ltI t9' t8') then
    bif ((leI (0 : Int) t9') && (ltI t9' ((t7'.length : Nat) : Int))) then bif (ltI (((t7'.getD t9'.toNat .nil).cell 0).toInt) (IntKind.i64.wrap (0 - most'))) then
      some ([.p (.bool false)], [])
    else
      bif (gtI (((t7'.getD t9'.toNat .nil).cell 0).toInt) most') then
        some ([.p (.bool false)], [])
      else
        L tab C 70 [] [.lp [1, 0, 1, 0]] (S70_1010 most' t7' t8' (IntKind.i64.wrap (t9' + (1 : Int)))) else none
  else
    some ([.p (.bool true)], []) := by kernel_rfl
def S71_10 (data_o : Nat) (data_l : Nat) (a' : Int) (b' : Int) (i' : Int) (b100000_b : List PV) : St := ⟨(.slice 100000 5 data_o data_l) :: (.p (.int .i64 a')) :: (.p (.int .i64 b')) :: (.p (.fn 32 [])) :: .undef :: .undef :: .undef :: .undef :: (.p (.int .i64 i')) :: List.replicate 44 .undef, [(100000, .arr true [.int .i64, .int .i64, .int .i64, .int .i64, .int .i64] b100000_b)]⟩
def S71_10_10010 (data_o : Nat) (data_l : Nat) (a' : Int) (b' : Int) (i' : Int) (j' : Int) (b100000_b : List PV) : St := ⟨(.slice 100000 5 data_o data_l) :: (.p (.int .i64 a')) :: (.p (.int .i64 b')) :: (.p (.fn 32 [])) :: .undef :: .undef :: .undef :: .undef :: (.p (.int .i64 i')) :: (.p (.int .i64 j')) :: List.replicate 43 .undef, [(100000, .arr true [.int .i64, .int .i64, .int .i64, .int .i64, .int .i64] b100000_b)]⟩
theorem e71 (C : CallF) (data_o : Nat) (data_l : Nat) (data_b : List PV) (a : Int) (b : Int) : acallI tab C 71 [.slice 100000 5 data_o data_l, .p (.int .i64 a), .p (.int .i64 b), .p (.fn 32 [])] [.arr true [.int .i64, .int .i64, .int .i64, .int .i64, .int .i64] data_b] =
  L tab C 71 [.arr true [.int .i64, .int .i64, .int .i64, .int .i64, .int .i64] data_b] [.lp [1, 0]] (S71_10 data_o data_l a b (IntKind.i64.wrap (a + (1 : Int))) data_b) := by kernel_rfl
theorem e71_10 (C : CallF) (data_b : List PV) (data_o : Nat) (data_l : Nat) (a' : Int) (b' : Int) (i' : Int) (b100000_b : List PV) : R tab C 71 [.arr true [.int .i64, .int .i64, .int .i64, .int .i64, .int .i64] data_b] [.lp [1, 0]] (S71_10 data_o data_l a' b' i' b100000_b) =
  bif (ltI i' b') then
    L tab C 71 [.arr true [.int .i64, .int .i64, .int .i64, .int .i64, .int .i64] data_b] [.lp [1, 0], .lp [1, 0, 0, 1, 0]] (S71_10_10010 data_o data_l a' b' i' i' b100000_b)
  else
    some ([], [.arr true [.int .i64, .int .i64, .int .i64, .int .i64, .int .i64] b100000_b]) := by kernel_rfl
theorem e71_10_10010 (C : CallF) (data_b : List PV) (data_o : Nat) (data_l : Nat) (a' : Int) (b' : Int) (i' : Int) (j' : Int) (b100000_b : List PV) : R tab C 71 [.arr true [.int .i64, .int .i64, .int .i64, .int .i64, .int .i64] data_b] [.lp [1, 0], .lp [1, 0, 0, 1, 0]] (S71_10_10010 data_o data_l a' b' i' j' b100000_b) =
  bif (gtI j' a') then
    bif ((leI (0 : Int) j') && (ltI j' (data_l : Int))) then bif ((leI (0 : Int) (IntKind.i64.wrap (j' - (1 : Int)))) && (ltI (IntKind.i64.wrap (j' - (1 : Int))) (data_l : Int))) then (C 32 [.p (.agg [.int .i64 (((b100000_b.getD (data_o + j'.toNat) .nil).cell 0).toInt), .int .i64 (((b100000_b.getD (data_o + j'.toNat) .nil).cell 1).toInt), .int .i64 (((b100000_b.getD (data_o + j'.toNat) .nil).cell 2).toInt), .int .i64 (((b100000_b.getD (data_o + j'.toNat) .nil).cell 3).toInt), .int .i64 (((b100000_b.getD (data_o + j'.toNat) .nil).cell 4).toInt)]), .p (.agg [.int .i64 (((b100000_b.getD (data_o + (IntKind.i64.wrap (j' - (1 : Int))).toNat) .nil).cell 0).toInt), .int .i64 (((b100000_b.getD (data_o + (IntKind.i64.wrap (j' - (1 : Int))).toNat) .nil).cell 1).toInt), .int .i64 (((b100000_b.getD (data_o + (IntKind.i64.wrap (j' - (1 : Int))).toNat) .nil).cell 2).toInt), .int .i64 (((b100000_b.getD (data_o + (IntKind.i64.wrap (j' - (1 : Int))).toNat) .nil).cell 3).toInt), .int .i64 (((b100000_b.getD (data_o + (IntKind.i64.wrap (j' - (1 : Int))).toNat) .nil).cell 4).toInt)])] []).bind fun r1 =>
    bif (ltI ((r1.1.headD .undef).pv.toInt) (0 : Int)) then
      bif ((leI (0 : Int) (IntKind.i64.wrap (j' - (1 : Int)))) && (ltI (IntKind.i64.wrap (j' - (1 : Int))) (data_l : Int))) then bif ((leI (0 : Int) j') && (ltI j' (data_l : Int))) then bif ((leI (0 : Int) j') && (ltI j' (data_l : Int))) then bif ((leI (0 : Int) (IntKind.i64.wrap (j' - (1 : Int)))) && (ltI (IntKind.i64.wrap (j' - (1 : Int))) (data_l : Int))) then L tab C 71 [.arr true [.int .i64, .int .i64, .int .i64, .int .i64, .int .i64] data_b] [.lp [1, 0], .lp [1, 0, 0, 1, 0]] (S71_10_10010 data_o data_l a' b' i' (IntKind.i64.wrap (j' - (1 : Int))) ((b100000_b.set (data_o + j'.toNat) (PV.agg [.int .i64 (((b100000_b.getD (data_o + (IntKind.i64.wrap (j' - (1 : Int))).toNat) .nil).cell 0).toInt), .int .i64 (((b100000_b.getD (data_o + (IntKind.i64.wrap (j' - (1 : Int))).toNat) .nil).cell 1).toInt), .int .i64 (((b100000_b.getD (data_o + (IntKind.i64.wrap (j' - (1 : Int))).toNat) .nil).cell 2).toInt), .int .i64 (((b100000_b.getD (data_o + (IntKind.i64.wrap (j' - (1 : Int))).toNat) .nil).cell 3).toInt), .int .i64 (((b100000_b.getD (data_o + (IntKind.i64.wrap (j' - (1 : Int))).toNat) .nil).cell 4).toInt)])).set (data_o + (IntKind.i64.wrap (j' - (1 : Int))).toNat) (PV.agg [.int .i64 (((b100000_b.getD (data_o + j'.toNat) .nil).cell 0).toInt), .int .i64 (((b100000_b.getD (data_o + j'.toNat) .nil).cell 1).toInt), .int .i64 (((b100000_b.getD (data_o + j'.toNat) .nil).cell 2).toInt), .int .i64 (((b100000_b.getD (data_o + j'.toNat) .nil).cell 3).toInt), .int .i64 (((b100000_b.getD (data_o + j'.toNat) .nil).cell 4).toInt)]))) else none else none else none else none
    else
      L tab C 71 [.arr true [.int .i64, .int .i64, .int .i64, .int .i64, .int .i64] data_b] [.lp [1, 0]] (S71_10 data_o data_l a' b' (IntKind.i64.wrap (i' + (1 : Int))) b100000_b) else none else none
  else
    L tab C 71 [.arr true [.int .i64, .int .i64, .int .i64, .int .i64, .int .i64] data_b] [.lp [1, 0]] (S71_10 data_o data_l a' b' (IntKind.i64.wrap (i' + (1 : Int))) b100000_b) := by kernel_rfl
def S72_0101100 (data_o : Nat) (data_l : Nat) (a' : Int) (i' : Int) (j' : Int) (b100000_b : List PV) : St := ⟨(.slice 100000 5 data_o data_l) :: (.p (.int .i64 a')) :: .undef :: .undef :: (.p (.fn 32 [])) :: .undef :: .undef :: .undef :: .undef :: .undef :: (.p (.int .i64 i')) :: (.p (.int .i64 j')) :: List.replicate 208 .undef, [(100000, .arr true [.int .i64, .int .i64, .int .i64, .int .i64, .int .i64] b100000_b)]⟩
def S72_10101100 (data_o : Nat) (data_l : Nat) (m' : Int) (i' : Int) (j' : Int) (b100000_b : List PV) : St := ⟨(.slice 100000 5 data_o data_l) :: .undef :: (.p (.int .i64 m')) :: .undef :: (.p (.fn 32 [])) :: .undef :: .undef :: .undef :: .undef :: .undef :: .undef :: .undef :: .undef :: .undef :: (.p (.int .i64 i')) :: (.p (.int .i64 j')) :: List.replicate 204 .undef, [(100000, .arr true [.int .i64, .int .i64, .int .i64, .int .i64, .int .i64] b100000_b)]⟩
def S72_111111100 (data_o : Nat) (data_l : Nat) (a' : Int) (m' : Int) (b' : Int) (mid' : Int) (n_' : Int) (start' : Int) (r_' : Int) (p' : Int) (b100000_b : List PV) : St := ⟨(.slice 100000 5 data_o data_l) :: (.p (.int .i64 a')) :: (.p (.int .i64 m')) :: (.p (.int .i64 b')) :: (.p (.fn 32 [])) :: .undef :: .undef :: .undef :: .undef :: .undef :: .undef :: .undef :: .undef :: .undef :: .undef :: .undef :: .undef :: .undef :: (.p (.int .i64 mid')) :: (.p (.int .i64 n_')) :: (.p (.int .i64 start')) :: (.p (.int .i64 r_')) :: (.p (.int .i64 p')) :: List.replicate 197 .undef, [(100000, .arr true [.int .i64, .int .i64, .int .i64, .int .i64, .int .i64] b100000_b)]⟩
def S72_010111010 (data_o : Nat) (data_l : Nat) (i' : Int) (k' : Int) (b100000_b : List PV) : St := ⟨(.slice 100000 5 data_o data_l) :: .undef :: .undef :: .undef :: .undef :: .undef :: .undef :: .undef :: .undef :: .undef :: (.p (.int .i64 i')) :: .undef :: .undef :: (.p (.int .i64 k')) :: List.replicate 206 .undef, [(100000, .arr true [.int .i64, .int .i64, .int .i64, .int .i64, .int .i64] b100000_b)]⟩
def S72_1010111010 (data_o : Nat) (data_l : Nat) (i' : Int) (k' : Int) (b100000_b : List PV) : St := ⟨(.slice 100000 5 data_o data_l) :: .undef :: .undef :: .undef :: .undef :: .undef :: .undef :: .undef :: .undef :: .undef :: .undef :: .undef :: .undef :: .undef :: (.p (.int .i64 i')) :: .undef :: .undef :: (.p (.int .i64 k')) :: List.replicate 202 .undef, [(100000, .arr true [.int .i64, .int .i64, .int .i64, .int .i64, .int .i64] b100000_b)]⟩
theorem e72 (C : CallF) (data_o : Nat) (data_l : Nat) (data_b : List PV) (a : Int) (m : Int) (b : Int) : acallI tab C 72 [.slice 100000 5 data_o data_l, .p (.int .i64 a), .p (.int .i64 m), .p (.int .i64 b), .p (.fn 32 [])] [.arr true [.int .i64, .int .i64, .int .i64, .int .i64, .int .i64] data_b] =
  bif ((IntKind.i64.wrap (m - a)) == (1 : Int)) then
    L tab C 72 [.arr true [.int .i64, .int .i64, .int .i64, .int .i64, .int .i64] data_b] [.lp [0, 1, 0, 1, 1, 0, 0]] (S72_0101100 data_o data_l a m b data_b)
  else
    bif ((IntKind.i64.wrap (b - m)) == (1 : Int)) then
      L tab C 72 [.arr true [.int .i64, .int .i64, .int .i64, .int .i64, .int .i64] data_b] [.lp [1, 0, 1, 0, 1, 1, 0, 0]] (S72_10101100 data_o data_l m a m data_b)
    else
      bif (gtI m (IntKind.i64.wrap ((IntKind.u64.wrap (IntKind.i64.wrap (a + b))).fdiv (2 ^ 1)))) then
        L tab C 72 [.arr true [.int .i64, .int .i64, .int .i64, .int .i64, .int .i64] data_b] [.lp [1, 1, 1, 1, 1, 1, 1, 0, 0]] (S72_111111100 data_o data_l a m b (IntKind.i64.wrap ((IntKind.u64.wrap (IntKind.i64.wrap (a + b))).fdiv (2 ^ 1))) (IntKind.i64.wrap ((IntKind.i64.wrap ((IntKind.u64.wrap (IntKind.i64.wrap (a + b))).fdiv (2 ^ 1))) + m)) (IntKind.i64.wrap ((IntKind.i64.wrap ((IntKind.i64.wrap ((IntKind.u64.wrap (IntKind.i64.wrap (a + b))).fdiv (2 ^ 1))) + m)) - b)) (IntKind.i64.wrap ((IntKind.u64.wrap (IntKind.i64.wrap (a + b))).fdiv (2 ^ 1))) (IntKind.i64.wrap ((IntKind.i64.wrap ((IntKind.i64.wrap ((IntKind.u64.wrap (IntKind.i64.wrap (a + b))).fdiv (2 ^ 1))) + m)) - (1 : Int))) data_b)
      else
        L tab C 72 [.arr true [.int .i64, .int .i64, .int .i64, .int .i64, .int .i64] data_b] [.lp [1, 1, 1, 1, 1, 1, 1, 0, 0]] (S72_111111100 data_o data_l a m b (IntKind.i64.wrap ((IntKind.u64.wrap (IntKind.i64.wrap (a + b))).fdiv (2 ^ 1))) (IntKind.i64.wrap ((IntKind.i64.wrap ((IntKind.u64.wrap (IntKind.i64.wrap (a + b))).fdiv (2 ^ 1))) + m)) a m (IntKind.i64.wrap ((IntKind.i64.wrap ((IntKind.i64.wrap ((IntKind.u64.wrap (IntKind.i64.wrap (a + b))).fdiv (2 ^ 1))) + m)) - (1 : Int))) data_b) := by kernel_rfl
theorem e72_0101100 (C : CallF) (data_b : List PV) (data_o : Nat) (data_l : Nat) (a' : Int) (i' : Int) (j' : Int) (b100000_b : List PV) : R tab C 72 [.arr true [.int .i64, .int .i64, .int .i64, .int .i64, .int .i64] data_b] [.lp [0, 1, 0, 1, 1, 0, 0]] (S72_0101100 data_o data_l a' i' j' b100000_b) =
  bif (ltI i' j') then
    bif ((leI (0 : Int) (IntKind.i64.wrap ((IntKind.u64.wrap (IntKind.i64.wrap (i' + j'))).fdiv (2 ^ 1)))) && (ltI (IntKind.i64.wrap ((IntKind.u64.wrap (IntKind.i64.wrap (i' + j'))).fdiv (2 ^ 1))) (data_l : Int))) then bif ((leI (0 : Int) a') && (ltI a' (data_l : Int))) then (C 32 [.p (.agg [.int .i64 (((b100000_b.getD (data_o + (IntKind.i64.wrap ((IntKind.u64.wrap (IntKind.i64.wrap (i' + j'))).fdiv (2 ^ 1))).toNat) .nil).cell 0).toInt), .int .i64 (((b100000_b.getD (data_o + (IntKind.i64.wrap ((IntKind.u64.wrap (IntKind.i64.wrap (i' + j'))).fdiv (2 ^ 1))).toNat) .nil).cell 1).toInt), .int .i64 (((b100000_b.getD (data_o + (IntKind.i64.wrap ((IntKind.u64.wrap (IntKind.i64.wrap (i' + j'))).fdiv (2 ^ 1))).toNat) .nil).cell 2).toInt), .int .i64 (((b100000_b.getD (data_o + (IntKind.i64.wrap ((IntKind.u64.wrap (IntKind.i64.wrap (i' + j'))).fdiv (2 ^ 1))).toNat) .nil).cell 3).toInt), .int .i64 (((b100000_b.getD (data_o + (IntKind.i64.wrap ((IntKind.u64.wrap (IntKind.i64.wrap (i' + j'))).fdiv (2 ^ 1))).toNat) .nil).cell 4).toInt)]), .p (.agg [.int .i64 (((b100000_b.getD (data_o + a'.toNat) .nil).cell 0).toInt), .int .i64 (((b100000_b.getD (data_o + a'.toNat) .nil).cell 1).toInt), .int .i64 (((b100000_b.getD (data_o + a'.toNat) .nil).cell 2).toInt), .int .i64 (((b100000_b.getD (data_o + a'.toNat) .nil).cell 3).toInt), .int .i64 (((b100000_b.getD (data_o + a'.toNat) .nil).cell 4).toInt)])] []).bind fun r1 =>
    bif (ltI ((r1.1.headD .undef).pv.toInt) (0 : Int)) then
      L tab C 72 [.arr true [.int .i64, .int .i64, .int .i64, .int .i64, .int .i64] data_b] [.lp [0, 1, 0, 1, 1, 0, 0]] (S72_0101100 data_o data_l a' (IntKind.i64.wrap ((IntKind.i64.wrap ((IntKind.u64.wrap (IntKind.i64.wrap (i' + j'))).fdiv (2 ^ 1))) + (1 : Int))) j' b100000_b)
    else
      L tab C 72 [.arr true [.int .i64, .int .i64, .int .i64, .int .i64, .int .i64] data_b] [.lp [0, 1, 0, 1, 1, 0, 0]] (S72_0101100 data_o data_l a' i' (IntKind.i64.wrap ((IntKind.u64.wrap (IntKind.i64.wrap (i' + j'))).fdiv (2 ^ 1))) b100000_b) else none else none
  else
    L tab C 72 [.arr true [.int .i64, .int .i64, .int .i64, .int .i64, .int .i64] data_b] [.lp [0, 1, 0, 1, 1, 1, 0, 1, 0]] (S72_010111010 data_o data_l i' a' b100000_b) := by kernel_rfl
theorem e72_10101100 (C : CallF) (data_b : List PV) (data_o : Nat) (data_l : Nat) (m' : Int) (i' : Int) (j' : Int) (b100000_b : List PV) : R tab C 72 [.arr true [.int .i64, .int .i64, .int .i64, .int .i64, .int .i64] data_b] [.lp [1, 0, 1, 0, 1, 1, 0, 0]] (S72_10101100 data_o data_l m' i' j' b100000_b) =
  bif (ltI i' j') then
    bif ((leI (0 : Int) m') && (ltI m' (data_l : Int))) then bif ((leI (0 : Int) (IntKind.i64.wrap ((IntKind.u64.wrap (IntKind.i64.wrap (i' + j'))).fdiv (2 ^ 1)))) && (ltI (IntKind.i64.wrap ((IntKind.u64.wrap (IntKind.i64.wrap (i' + j'))).fdiv (2 ^ 1))) (data_l : Int))) then (C 32 [.p (.agg [.int .i64 (((b100000_b.getD (data_o + m'.toNat) .nil).cell 0).toInt), .int .i64 (((b100000_b.getD (data_o + m'.toNat) .nil).cell 1).toInt), .int .i64 (((b100000_b.getD (data_o + m'.toNat) .nil).cell 2).toInt), .int .i64 (((b100000_b.getD (data_o + m'.toNat) .nil).cell 3).toInt), .int .i64 (((b100000_b.getD (data_o + m'.toNat) .nil).cell 4).toInt)]), .p (.agg [.int .i64 (((b100000_b.getD (data_o + (IntKind.i64.wrap ((IntKind.u64.wrap (IntKind.i64.wrap (i' + j'))).fdiv (2 ^ 1))).toNat) .nil).cell 0).toInt), .int .i64 (((b100000_b.getD (data_o + (IntKind.i64.wrap ((IntKind.u64.wrap (IntKind.i64.wrap (i' + j'))).fdiv (2 ^ 1))).toNat) .nil).cell 1).toInt), .int .i64 (((b100000_b.getD (data_o + (IntKind.i64.wrap ((IntKind.u64.wrap (IntKind.i64.wrap (i' + j'))).fdiv (2 ^ 1))).toNat) .nil).cell 2).toInt), .int .i64 (((b100000_b.getD (data_o + (IntKind.i64.wrap ((IntKind.u64.wrap (IntKind.i64.wrap (i' + j'))).fdiv (2 ^ 1))).toNat) .nil).cell 3).toInt), .int .i64 (((b100000_b.getD (data_o + (IntKind.i64.wrap ((IntKind.u64.wrap (IntKind.i64.wrap (i' + j'))).fdiv (2 ^ 1))).toNat) .nil).cell 4).toInt)])] []).bind fun r1 =>
    bif (!(ltI ((r1.1.headD .undef).pv.toInt) (0 : Int))) then
      L tab C 72 [.arr true [.int .i64, .int .i64, .int .i64, .int .i64, .int .i64] data_b] [.lp [1, 0, 1, 0, 1, 1, 0, 0]] (S72_10101100 data_o data_l m' (IntKind.i64.wrap ((IntKind.i64.wrap ((IntKind.u64.wrap (IntKind.i64.wrap (i' + j'))).fdiv (2 ^ 1))) + (1 : Int))) j' b100000_b)
    else
      L tab C 72 [.arr true [.int .i64, .int .i64, .int .i64, .int .i64, .int .i64] data_b] [.lp [1, 0, 1, 0, 1, 1, 0, 0]] (S72_10101100 data_o data_l m' i' (IntKind.i64.wrap ((IntKind.u64.wrap (IntKind.i64.wrap (i' + j'))).fdiv (2 ^ 1))) b100000_b) else none else none
  else
    L tab C 72 [.arr true [.int .i64, .int .i64, .int .i64, .int .i64, .int .i64] data_b] [.lp [1, 0, 1, 0, 1, 1, 1, 0, 1, 0]] (S72_1010111010 data_o data_l i' m' b100000_b) := by kernel_rfl
theorem e72_111111100 (C : CallF) (data_b : List PV) (data_o : Nat) (data_l : Nat) (a' : Int) (m' : Int) (b' : Int) (mid' : Int) (n_' : Int) (start' : Int) (r_' : Int) (p' : Int) (b100000_b : List PV) : R tab C 72 [.arr true [.int .i64, .int .i64, .int .i64, .int .i64, .int .i64] data_b] [.lp [1, 1, 1, 1, 1, 1, 1, 0, 0]] (S72_111111100 data_o data_l a' m' b' mid' n_' start' r_' p' b100000_b) =
  bif (ltI start' r_') then
    bif ((leI (0 : Int) (IntKind.i64.wrap (p' - (IntKind.i64.wrap ((IntKind.u64.wrap (IntKind.i64.wrap (start' + r_'))).fdiv (2 ^ 1)))))) && (ltI (IntKind.i64.wrap (p' - (IntKind.i64.wrap ((IntKind.u64.wrap (IntKind.i64.wrap (start' + r_'))).fdiv (2 ^ 1))))) (data_l : Int))) then bif ((leI (0 : Int) (IntKind.i64.wrap ((IntKind.u64.wrap (IntKind.i64.wrap (start' + r_'))).fdiv (2 ^ 1)))) && (ltI (IntKind.i64.wrap ((IntKind.u64.wrap (IntKind.i64.wrap (start' + r_'))).fdiv (2 ^ 1))) (data_l : Int))) then (C 32 [.p (.agg [.int .i64 (((b100000_b.getD (data_o + (IntKind.i64.wrap (p' - (IntKind.i64.wrap ((IntKind.u64.wrap (IntKind.i64.wrap (start' + r_'))).fdiv (2 ^ 1))))).toNat) .nil).cell 0).toInt), .int .i64 (((b100000_b.getD (data_o + (IntKind.i64.wrap (p' - (IntKind.i64.wrap ((IntKind.u64.wrap (IntKind.i64.wrap (start' + r_'))).fdiv (2 ^ 1))))).toNat) .nil).cell 1).toInt), .int .i64 (((b100000_b.getD (data_o + (IntKind.i64.wrap (p' - (IntKind.i64.wrap ((IntKind.u64.wrap (IntKind.i64.wrap (start' + r_'))).fdiv (2 ^ 1))))).toNat) .nil).cell 2).toInt), .int .i64 (((b100000_b.getD (data_o + (IntKind.i64.wrap (p' - (IntKind.i64.wrap ((IntKind.u64.wrap (IntKind.i64.wrap (start' + r_'))).fdiv (2 ^ 1))))).toNat) .nil).cell 3).toInt), .int .i64 (((b100000_b.getD (data_o + (IntKind.i64.wrap (p' - (IntKind.i64.wrap ((IntKind.u64.wrap (IntKind.i64.wrap (start' + r_'))).fdiv (2 ^ 1))))).toNat) .nil).cell 4).toInt)]), .p (.agg [.int .i64 (((b100000_b.getD (data_o + (IntKind.i64.wrap ((IntKind.u64.wrap (IntKind.i64.wrap (start' + r_'))).fdiv (2 ^ 1))).toNat) .nil).cell 0).toInt), .int .i64 (((b100000_b.getD (data_o + (IntKind.i64.wrap ((IntKind.u64.wrap (IntKind.i64.wrap (start' + r_'))).fdiv (2 ^ 1))).toNat) .nil).cell 1).toInt), .int .i64 (((b100000_b.getD (data_o + (IntKind.i64.wrap ((IntKind.u64.wrap (IntKind.i64.wrap (start' + r_'))).fdiv (2 ^ 1))).toNat) .nil).cell 2).toInt), .int .i64 (((b100000_b.getD (data_o + (IntKind.i64.wrap ((IntKind.u64.wrap (IntKind.i64.wrap (start' + r_'))).fdiv (2 ^ 1))).toNat) .nil).cell 3).toInt), .int .i64 (((b100000_b.getD (data_o + (IntKind.i64.wrap ((IntKind.u64.wrap (IntKind.i64.wrap (start' + r_'))).fdiv (2 ^ 1))).toNat) .nil).cell 4).toInt)])] []).bind fun r1 =>
    bif (!(ltI ((r1.1.headD .undef).pv.toInt) (0 : Int))) then
      L tab C 72 [.arr true [.int .i64, .int .i64, .int .i64, .int .i64, .int .i64] data_b] [.lp [1, 1, 1, 1, 1, 1, 1, 0, 0]] (S72_111111100 data_o data_l a' m' b' mid' n_' (IntKind.i64.wrap ((IntKind.i64.wrap ((IntKind.u64.wrap (IntKind.i64.wrap (start' + r_'))).fdiv (2 ^ 1))) + (1 : Int))) r_' p' b100000_b)
    else
      L tab C 72 [.arr true [.int .i64, .int .i64, .int .i64, .int .i64, .int .i64] data_b] [.lp [1, 1, 1, 1, 1, 1, 1, 0, 0]] (S72_111111100 data_o data_l a' m' b' mid' n_' start' (IntKind.i64.wrap ((IntKind.u64.wrap (IntKind.i64.wrap (start' + r_'))).fdiv (2 ^ 1))) p' b100000_b) else none else none
  else
    bif (ltI start' m') then
      bif (ltI m' (IntKind.i64.wrap (n_' - start'))) then
        (C 88 [.slice 100000 5 data_o data_l, .p (.int .i64 start'), .p (.int .i64 m'), .p (.int .i64 (IntKind.i64.wrap (n_' - start'))), .p (.fn 32 [])] [.arr true [.int .i64, .int .i64, .int .i64, .int .i64, .int .i64] b100000_b]).bind fun r2 =>
        bif (ltI a' start') then
          bif (ltI start' mid') then
            (C 72 [.slice 100000 5 data_o data_l, .p (.int .i64 a'), .p (.int .i64 start'), .p (.int .i64 mid'), .p (.fn 32 [])] [.arr true [.int .i64, .int .i64, .int .i64, .int .i64, .int .i64] ((r2.2.headD (.box [])).xs)]).bind fun r3 =>
            bif (ltI mid' (IntKind.i64.wrap (n_' - start'))) then
              bif (ltI (IntKind.i64.wrap (n_' - start')) b') then
                (C 72 [.slice 100000 5 data_o data_l, .p (.int .i64 mid'), .p (.int .i64 (IntKind.i64.wrap (n_' - start'))), .p (.int .i64 b'), .p (.fn 32 [])] [.arr true [.int .i64, .int .i64, .int .i64, .int .i64, .int .i64] ((r3.2.headD (.box [])).xs)]).bind fun r4 =>
                some ([], [.arr true [.int .i64, .int .i64, .int .i64, .int .i64, .int .i64] ((r4.2.headD (.box [])).xs)])
              else
                some ([], [.arr true [.int .i64, .int .i64, .int .i64, .int .i64, .int .i64] ((r3.2.headD (.box [])).xs)])
            else
              some ([], [.arr true [.int .i64, .int .i64, .int .i64, .int .i64, .int .i64] ((r3.2.headD (.box [])).xs)])
          else
            bif (ltI mid' (IntKind.i64.wrap (n_' - start'))) then
              bif (ltI (IntKind.i64.wrap (n_' - start')) b') then
                (C 72 [.slice 100000 5 data_o data_l, .p (.int .i64 mid'), .p (.int .i64 (IntKind.i64.wrap (n_' - start'))), .p (.int .i64 b'), .p (.fn 32 [])] [.arr true [.int .i64, .int .i64, .int .i64, .int .i64, .int .i64] ((r2.2.headD (.box [])).xs)]).bind fun r5 =>
                some ([], [.arr true [.int .i64, .int .i64, .int .i64, .int .i64, .int .i64] ((r5.2.headD (.box [])).xs)])
              else
                some ([], [.arr true [.int .i64, .int .i64, .int .i64, .int .i64, .int .i64] ((r2.2.headD (.box [])).xs)])
            else
              some ([], [.arr true [.int .i64, .int .i64, .int .i64, .int .i64, .int .i64] ((r2.2.headD (.box [])).xs)])
        else
          bif (ltI mid' (IntKind.i64.wrap (n_' - start'))) then
            bif (ltI (IntKind.i64.wrap (n_' - start')) b') then
              (C 72 [.slice 100000 5 data_o data_l, .p (.int .i64 mid'), .p (.int .i64 (IntKind.i64.wrap (n_' - start'))), .p (.int .i64 b'), .p (.fn 32 [])] [.arr true [.int .i64, .int .i64, .int .i64, .int .i64, .int .i64] ((r2.2.headD (.box [])).xs)]).bind fun r6 =>
              some ([], [.arr true [.int .i64, .int .i64, .int .i64, .int .i64, .int .i64] ((r6.2.headD (.box [])).xs)])
            else
              some ([], [.arr true [.int .i64, .int .i64, .int .i64, .int .i64, .int .i64] ((r2.2.headD (.box [])).xs)])
          else
            some ([], [.arr true [.int .i64, .int .i64, .int .i64, .int .i64, .int .i64] ((r2.2.headD (.box [])).xs)])
      else
        bif (ltI a' start') then
          bif (ltI start' mid') then
            (C 72 [.slice 100000 5 data_o data_l, .p (.int .i64 a'), .p (.int .i64 start'), .p (.int .i64 mid'), .p (.fn 32 [])] [.arr true [.int .i64, .int .i64, .int .i64, .int .i64, .int .i64] b100000_b]).bind fun r7 =>
            bif (ltI mid' (IntKind.i64.wrap (n_' - start'))) then
              bif (ltI (IntKind.i64.wrap (n_' - start')) b') then
                (C 72 [.slice 100000 5 data_o data_l, .p (.int .i64 mid'), .p (.int .i64 (IntKind.i64.wrap (n_' - start'))), .p (.int .i64 b'), .p (.fn 32 [])] [.arr true [.int .i64, .int .i64, .int .i64, .int .i64, .int .i64] ((r7.2.headD (.box [])).xs)]).bind fun r8 =>
                some ([], [.arr true [.int .i64, .int .i64, .int .i64, .int .i64, .int .i64] ((r8.2.headD (.box [])).xs)])
              else
                some ([], [.arr true [.int .i64, .int .i64, .int .i64, .int .i64, .int .i64] ((r7.2.headD (.box [])).xs)])
            else
              some ([], [.arr true [.int .i64, .int .i64, .int .i64, .int .i64, .int .i64] ((r7.2.headD (.box [])).xs)])
          else
            bif (ltI mid' (IntKind.i64.wrap (n_' - start'))) then
              bif (ltI (IntKind.i64.wrap (n_' - start')) b') then
                (C 72 [.slice 100000 5 data_o data_l, .p (.int .i64 mid'), .p (.int .i64 (IntKind.i64.wrap (n_' - start'))), .p (.int .i64 b'), .p (.fn 32 [])] [.arr true [.int .i64, .int .i64, .int .i64, .int .i64, .int .i64] b100000_b]).bind fun r9 =>
                some ([], [.arr true [.int .i64, .int .i64, .int .i64, .int .i64, .int .i64] ((r9.2.headD (.box [])).xs)])
              else
                some ([], [.arr true [.int .i64, .int .i64, .int .i64, .int .i64, .int .i64] b100000_b])
            else
              some ([], [.arr true [.int .i64, .int .i64, .int .i64, .int .i64, .int .i64] b100000_b])
        else
          bif (ltI mid' (IntKind.i64.wrap (n_' - start'))) then
            bif (ltI (IntKind.i64.wrap (n_' - start')) b') then
              (C 72 [.slice 100000 5 data_o data_l, .p (.int .i64 mid'), .p (.int .i64 (IntKind.i64.wrap (n_' - start'))), .p (.int .i64 b'), .p (.fn 32 [])] [.arr true [.int .i64, .int .i64, .int .i64, .int .i64, .int .i64] b100000_b]).bind fun r10 =>
              some ([], [.arr true [.int .i64, .int .i64, .int .i64, .int .i64, .int .i64] ((r10.2.headD (.box [])).xs)])
            else
              some ([], [.arr true [.int .i64, .int .i64, .int .i64, .int .i64, .int .i64] b100000_b])
          else
            some ([], [.arr true [.int .i64, .int .i64, .int .i64, .int .i64, .int .i64] b100000_b])
    else
      bif (ltI a' start') then
        bif (ltI start' mid') then
          (C 72 [.slice 100000 5 data_o data_l, .p (.int .i64 a'), .p (.int .i64 start'), .p (.int .i64 mid'), .p (.fn 32 [])] [.arr true [.int .i64, .int .i64, .int .i64, .int .i64, .int .i64] b100000_b]).bind fun r11 =>
          bif (ltI mid' (IntKind.i64.wrap (n_' - start'))) then
            bif (ltI (IntKind.i64.wrap (n_' - start')) b') then
              (C 72 [.slice 100000 5 data_o data_l, .p (.int .i64 mid'), .p (.int .i64 (IntKind.i64.wrap (n_' - start'))), .p (.int .i64 b'), .p (.fn 32 [])] [.arr true [.int .i64, .int .i64, .int .i64, .int .i64, .int .i64] ((r11.2.headD (.box [])).xs)]).bind fun r12 =>
              some ([], [.arr true [.int .i64, .int .i64, .int .i64, .int .i64, .int .i64] ((r12.2.headD (.box [])).xs)])
            else
              some ([], [.arr true [.int .i64, .int .i64, .int .i64, .int .i64, .int .i64] ((r11.2.headD (.box [])).xs)])
          else
            some ([], [.arr true [.int .i64, .int .i64, .int .i64, .int .i64, .int .i64] ((r11.2.headD (.box [])).xs)])
        else
          bif (ltI mid' (IntKind.i64.wrap (n_' - start'))) then
            bif (ltI (IntKind.i64.wrap (n_' - start')) b') then
              (C 72 [.slice 100000 5 data_o data_l, .p (.int .i64 mid'), .p (.int .i64 (IntKind.i64.wrap (n_' - start'))), .p (.int .i64 b'), .p (.fn 32 [])] [.arr true [.int .i64, .int .i64, .int .i64, .int .i64, .int .i64] b100000_b]).bind fun r13 =>
              some ([], [.arr true [.int .i64, .int .i64, .int .i64, .int .i64, .int .i64] ((r13.2.headD (.box [])).xs)])
            else
              some ([], [.arr true [.int .i64, .int .i64, .int .i64, .int .i64, .int .i64] b100000_b])
          else
            some ([], [.arr true [.int .i64, .int .i64, .int .i64, .int .i64, .int .i64] b100000_b])
      else
        bif (ltI mid' (IntKind.i64.wrap (n_' - start'))) then
          bif (ltI (IntKind.i64.wrap (n_' - start')) b') then
            (C 72 [.slice 100000 5 data_o data_l, .p (.int .i64 mid'), .p (.int .i64 (IntKind.i64.wrap (n_' - start'))), .p (.int .i64 b'), .p (.fn 32 [])] [.arr true [.int .i64, .int .i64, .int .i64, .int .i64, .int .i64] b100000_b]).bind fun r14 =>
            some ([], [.arr true [.int .i64, .int .i64, .int .i64, .int .i64, .int .i64] ((r14.2.headD (.box [])).xs)])
          else
            some ([], [.arr true [.int .i64, .int .i64, .int .i64, .int .i64, .int .i64] b100000_b])
        else
          some ([], [.arr true [.int .i64, .int .i64, .int .i64, .int .i64, .int .i64] b100000_b]) := by kernel_rfl
theorem e72_010111010 (C : CallF) (data_b : List PV) (data_o : Nat) (data_l : Nat) (i' : Int) (k' : Int) (b100000_b : List PV) : R tab C 72 [.arr true [.int .i64, .int .i64, .int .i64, .int .i64, .int .i64] data_b] [.lp [0, 1, 0, 1, 1, 1, 0, 1, 0]] (S72_010111010 data_o data_l i' k' b100000_b) =
  bif (ltI k' (IntKind.i64.wrap (i' - (1 : Int)))) then
    bif ((leI (0 : Int) (IntKind.i64.wrap (k' + (1 : Int)))) && (ltI (IntKind.i64.wrap (k' + (1 : Int))) (data_l : Int))) then bif ((leI (0 : Int) k') && (ltI k' (data_l : Int))) then bif ((leI (0 : Int) k') && (ltI k' (data_l : Int))) then bif ((leI (0 : Int) (IntKind.i64.wrap (k' + (1 : Int)))) && (ltI (IntKind.i64.wrap (k' + (1 : Int))) (data_l : Int))) then L tab C 72 [.arr true [.int .i64, .int .i64, .int .i64, .int .i64, .int .i64] data_b] [.lp [0, 1, 0, 1, 1, 1, 0, 1, 0]] (S72_010111010 data_o data_l i' (IntKind.i64.wrap (k' + (1 : Int))) ((b100000_b.set (data_o + k'.toNat) (PV.agg [.int .i64 (((b100000_b.getD (data_o + (IntKind.i64.wrap (k' + (1 : Int))).toNat) .nil).cell 0).toInt), .int .i64 (((b100000_b.getD (data_o + (IntKind.i64.wrap (k' + (1 : Int))).toNat) .nil).cell 1).toInt), .int .i64 (((b100000_b.getD (data_o + (IntKind.i64.wrap (k' + (1 : Int))).toNat) .nil).cell 2).toInt), .int .i64 (((b100000_b.getD (data_o + (IntKind.i64.wrap (k' + (1 : Int))).toNat) .nil).cell 3).toInt), .int .i64 (((b100000_b.getD (data_o + (IntKind.i64.wrap (k' + (1 : Int))).toNat) .nil).cell 4).toInt)])).set (data_o + (IntKind.i64.wrap (k' + (1 : Int))).toNat) (PV.agg [.int .i64 (((b100000_b.getD (data_o + k'.toNat) .nil).cell 0).toInt), .int .i64 (((b100000_b.getD (data_o + k'.toNat) .nil).cell 1).toInt), .int .i64 (((b100000_b.getD (data_o + k'.toNat) .nil).cell 2).toInt), .int .i64 (((b100000_b.getD (data_o + k'.toNat) .nil).cell 3).toInt), .int .i64 (((b100000_b.getD (data_o + k'.toNat) .nil).cell 4).toInt)]))) else none else none else none else none
  else
    some ([], [.arr true [.int .i64, .int .i64, .int .i64, .int .i64, .int .i64] b100000_b]) := by kernel_rfl
theorem e72_1010111010 (C : CallF) (data_b : List PV) (data_o : Nat) (data_l : Nat) (i' : Int) (k' : Int) (b100000_b : List PV) : R tab C 72 [.arr true [.int .i64, .int .i64, .int .i64, .int .i64, .int .i64] data_b] [.lp [1, 0, 1, 0, 1, 1, 1, 0, 1, 0]] (S72_1010111010 data_o data_l i' k' b100000_b) =
  bif (gtI k' i') then
    bif ((leI (0 : Int) (IntKind.i64.wrap (k' - (1 : Int)))) && (ltI (IntKind.i64.wrap (k' - (1 : Int))) (data_l : Int))) then bif ((leI (0 : Int) k') && (ltI k' (data_l : Int))) then bif ((leI (0 : Int) k') && (ltI k' (data_l : Int))) then bif ((leI (0 : Int) (IntKind.i64.wrap (k' - (1 : Int)))) && (ltI (IntKind.i64.wrap (k' - (1 : Int))) (data_l : Int))) then L tab C 72 [.arr true [.int .i64, .int .i64, .int .i64, .int .i64, .int .i64] data_b] [.lp [1, 0, 1, 0, 1, 1, 1, 0, 1, 0]] (S72_1010111010 data_o data_l i' (IntKind.i64.wrap (k' - (1 : Int))) ((b100000_b.set (data_o + k'.toNat) (PV.agg [.int .i64 (((b100000_b.getD (data_o + (IntKind.i64.wrap (k' - (1 : Int))).toNat) .nil).cell 0).toInt), .int .i64 (((b100000_b.getD (data_o + (IntKind.i64.wrap (k' - (1 : Int))).toNat) .nil).cell 1).toInt), .int .i64 (((b100000_b.getD (data_o + (IntKind.i64.wrap (k' - (1 : Int))).toNat) .nil).cell 2).toInt), .int .i64 (((b100000_b.getD (data_o + (IntKind.i64.wrap (k' - (1 : Int))).toNat) .nil).cell 3).toInt), .int .i64 (((b100000_b.getD (data_o + (IntKind.i64.wrap (k' - (1 : Int))).toNat) .nil).cell 4).toInt)])).set (data_o + (IntKind.i64.wrap (k' - (1 : Int))).toNat) (PV.agg [.int .i64 (((b100000_b.getD (data_o + k'.toNat) .nil).cell 0).toInt), .int .i64 (((b100000_b.getD (data_o + k'.toNat) .nil).cell 1).toInt), .int .i64 (((b100000_b.getD (data_o + k'.toNat) .nil).cell 2).toInt), .int .i64 (((b100000_b.getD (data_o + k'.toNat) .nil).cell 3).toInt), .int .i64 (((b100000_b.getD (data_o + k'.toNat) .nil).cell 4).toInt)]))) else none else none else none else none
  else
    some ([], [.arr true [.int .i64, .int .i64, .int .i64, .int .i64, .int .i64] b100000_b]) := by kernel_rfl
theorem e73 (C : CallF) (v_0 : Int) (v_1 : Int) (v_2 : Int) : acallI tab C 73 [.p (.agg [.int .i64 v_0, .int .i64 v_1, .int .i64 v_2])] [] =
  (C 57 [.p (.int .i64 v_0), .p (.int .i64 (-100)), .p (.int .i64 100)] []).bind fun r1 =>
  bif (r1.1.headD .undef).pv.toBool then
    (C 57 [.p (.int .i64 v_1), .p (.int .i64 (-100)), .p (.int .i64 100)] []).bind fun r2 =>
    bif (r2.1.headD .undef).pv.toBool then
      (C 57 [.p (.int .i64 v_2), .p (.int .i64 (-100)), .p (.int .i64 100)] []).bind fun r3 =>
      some ([.p (.bool ((r3.1.headD .undef).pv.toBool))], [])
    else
      some ([.p (.bool false)], [])
  else
    some ([.p (.bool false)], []) := by kernel_rfl
theorem e74 (C : CallF) (n_ : Int) (low : Int) (high : Int) : acallI tab C 74 [.p (.int .i64 n_), .p (.int .i64 low), .p (.int .i64 high)] [] =
  bif (geI n_ low) then
    some ([.p (.bool (leI n_ high))], [])
  else
    some ([.p (.bool false)], []) := by kernel_rfl
def S88_1100 (data_o : Nat) (data_l : Nat) (m' : Int) (i' : Int) (j' : Int) (b100000_b : List PV) : St := ⟨(.slice 100000 5 data_o data_l) :: .undef :: (.p (.int .i64 m')) :: .undef :: (.p (.fn 32 [])) :: .undef :: .undef :: .undef :: .undef :: .undef :: (.p (.int .i64 i')) :: (.p (.int .i64 j')) :: List.replicate 46 .undef, [(100000, .arr true [.int .i64, .int .i64, .int .i64, .int .i64, .int .i64] b100000_b)]⟩
theorem e88 (C : CallF) (data_o : Nat) (data_l : Nat) (data_b : List PV) (a : Int) (m : Int) (b : Int) : acallI tab C 88 [.slice 100000 5 data_o data_l, .p (.int .i64 a), .p (.int .i64 m), .p (.int .i64 b), .p (.fn 32 [])] [.arr true [.int .i64, .int .i64, .int .i64, .int .i64, .int .i64] data_b] =
  L tab C 88 [.arr true [.int .i64, .int .i64, .int .i64, .int .i64, .int .i64] data_b] [.lp [1, 1, 0, 0]] (S88_1100 data_o data_l m (IntKind.i64.wrap (m - a)) (IntKind.i64.wrap (b - m)) data_b) := by kernel_rfl
theorem e88_1100 (C : CallF) (data_b : List PV) (data_o : Nat) (data_l : Nat) (m' : Int) (i' : Int) (j' : Int) (b100000_b : List PV) : R tab C 88 [.arr true [.int .i64, .int .i64, .int .i64, .int .i64, .int .i64] data_b] [.lp [1, 1, 0, 0]] (S88_1100 data_o data_l m' i' j' b100000_b) =
  bif (i' != j') then
    bif (gtI i' j') then
      (C 101 [.slice 100000 5 data_o data_l, .p (.int .i64 (IntKind.i64.wrap (m' - i'))), .p (.int .i64 m'), .p (.int .i64 j'), .p (.fn 32 [])] [.arr true [.int .i64, .int .i64, .int .i64, .int .i64, .int .i64] b100000_b]).bind fun r1 =>
      L tab C 88 [.arr true [.int .i64, .int .i64, .int .i64, .int .i64, .int .i64] data_b] [.lp [1, 1, 0, 0]] (S88_1100 data_o data_l m' (IntKind.i64.wrap (i' - j')) j' ((r1.2.headD (.box [])).xs))
    else
      (C 101 [.slice 100000 5 data_o data_l, .p (.int .i64 (IntKind.i64.wrap (m' - i'))), .p (.int .i64 (IntKind.i64.wrap ((IntKind.i64.wrap (m' + j')) - i'))), .p (.int .i64 i'), .p (.fn 32 [])] [.arr true [.int .i64, .int .i64, .int .i64, .int .i64, .int .i64] b100000_b]).bind fun r2 =>
      L tab C 88 [.arr true [.int .i64, .int .i64, .int .i64, .int .i64, .int .i64] data_b] [.lp [1, 1, 0, 0]] (S88_1100 data_o data_l m' i' (IntKind.i64.wrap (j' - i')) ((r2.2.headD (.box [])).xs))
  else
    (C 101 [.slice 100000 5 data_o data_l, .p (.int .i64 (IntKind.i64.wrap (m' - i'))), .p (.int .i64 m'), .p (.int .i64 i'), .p (.fn 32 [])] [.arr true [.int .i64, .int .i64, .int .i64, .int .i64, .int .i64] b100000_b]).bind fun r3 =>
    some ([], [.arr true [.int .i64, .int .i64, .int .i64, .int .i64, .int .i64] ((r3.2.headD (.box [])).xs)]) := by kernel_rfl
def S101_10 (data_o : Nat) (data_l : Nat) (a' : Int) (b' : Int) (n_' : Int) (i' : Int) (b100000_b : List PV) : St := ⟨(.slice 100000 5 data_o data_l) :: (.p (.int .i64 a')) :: (.p (.int .i64 b')) :: (.p (.int .i64 n_')) :: .undef :: .undef :: .undef :: .undef :: .undef :: .undef :: (.p (.int .i64 i')) :: List.replicate 27 .undef, [(100000, .arr true [.int .i64, .int .i64, .int .i64, .int .i64, .int .i64] b100000_b)]⟩
theorem e101 (C : CallF) (data_o : Nat) (data_l : Nat) (data_b : List PV) (a : Int) (b : Int) (n_ : Int) : acallI tab C 101 [.slice 100000 5 data_o data_l, .p (.int .i64 a), .p (.int .i64 b), .p (.int .i64 n_), .p (.fn 32 [])] [.arr true [.int .i64, .int .i64, .int .i64, .int .i64, .int .i64] data_b] =
  L tab C 101 [.arr true [.int .i64, .int .i64, .int .i64, .int .i64, .int .i64] data_b] [.lp [1, 0]] (S101_10 data_o data_l a b n_ 0 data_b) := by kernel_rfl
theorem e101_10 (C : CallF) (data_b : List PV) (data_o : Nat) (data_l : Nat) (a' : Int) (b' : Int) (n_' : Int) (i' : Int) (b100000_b : List PV) : R tab C 101 [.arr true [.int .i64, .int .i64, .int .i64, .int .i64, .int .i64] data_b] [.lp [1, 0]] (S101_10 data_o data_l a' b' n_' i' b100000_b) =
  bif (ltI i' n_') then
    bif ((leI (0 : Int) (IntKind.i64.wrap (b' + i'))) && (ltI (IntKind.i64.wrap (b' + i')) (data_l : Int))) then bif ((leI (0 : Int) (IntKind.i64.wrap (a' + i'))) && (ltI (IntKind.i64.wrap (a' + i')) (data_l : Int))) then bif ((leI (0 : Int) (IntKind.i64.wrap (a' + i'))) && (ltI (IntKind.i64.wrap (a' + i')) (data_l : Int))) then bif ((leI (0 : Int) (IntKind.i64.wrap (b' + i'))) && (ltI (IntKind.i64.wrap (b' + i')) (data_l : Int))) then L tab C 101 [.arr true [.int .i64, .int .i64, .int .i64, .int .i64, .int .i64] data_b] [.lp [1, 0]] (S101_10 data_o data_l a' b' n_' (IntKind.i64.wrap (i' + (1 : Int))) ((b100000_b.set (data_o + (IntKind.i64.wrap (a' + i')).toNat) (PV.agg [.int .i64 (((b100000_b.getD (data_o + (IntKind.i64.wrap (b' + i')).toNat) .nil).cell 0).toInt), .int .i64 (((b100000_b.getD (data_o + (IntKind.i64.wrap (b' + i')).toNat) .nil).cell 1).toInt), .int .i64 (((b100000_b.getD (data_o + (IntKind.i64.wrap (b' + i')).toNat) .nil).cell 2).toInt), .int .i64 (((b100000_b.getD (data_o + (IntKind.i64.wrap (b' + i')).toNat) .nil).cell 3).toInt), .int .i64 (((b100000_b.getD (data_o + (IntKind.i64.wrap (b' + i')).toNat) .nil).cell 4).toInt)])).set (data_o + (IntKind.i64.wrap (b' + i')).toNat) (PV.agg [.int .i64 (((b100000_b.getD (data_o + (IntKind.i64.wrap (a' + i')).toNat) .nil).cell 0).toInt), .int .i64 (((b100000_b.getD (data_o + (IntKind.i64.wrap (a' + i')).toNat) .nil).cell 1).toInt), .int .i64 (((b100000_b.getD (data_o + (IntKind.i64.wrap (a' + i')).toNat) .nil).cell 2).toInt), .int .i64 (((b100000_b.getD (data_o + (IntKind.i64.wrap (a' + i')).toNat) .nil).cell 3).toInt), .int .i64 (((b100000_b.getD (data_o + (IntKind.i64.wrap (a' + i')).toNat) .nil).cell 4).toInt)]))) else none else none else none else none
  else
    some ([], [.arr true [.int .i64, .int .i64, .int .i64, .int .i64, .int .i64] b100000_b]) := by kernel_rfl
end Go.Skm.Drw
