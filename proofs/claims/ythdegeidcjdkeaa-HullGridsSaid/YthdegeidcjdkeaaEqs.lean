/-
  What the machine does in each function of this program, and in each round of each loop; no condition.
-/
import Derived.Test.YthdegeidcjdkeaaSkmC
import Derived.Test.YthdegeidcjdkeaaTab
import Derived.KernelRfl
set_option maxRecDepth 100000
namespace Go.Skm.Hull
open Go Go.Skm
/- skylanternlaw07.HullHulls -/
theorem e3 (C : CallF) (l : List PV) : acallI tab C 3 [.p (.list true [.int .i64, .int .i64, .int .i64] l)] [] =
  bif (decide (((l.length : Nat) : Int) > (12 : Int))) then
    (C 9 [] []).bind fun r1 =>
    some ([.p (.bool ((r1.1.headD .undef).pv.toBool))], [])
  else
    bif (decide (l.length ≤ 2147483648)) then (C 10 [.p (.list true [.int .i64, .int .i64, .int .i64] ((l.drop 0).take l.length))] []).bind fun r2 =>
    (C 11 [.p (.list true [.int .i64, .int .i64, .int .i64] ((l.drop 0).take l.length)), .p (.list true [.int .i64, .int .i64, .int .i64] l)] []).bind fun r3 =>
    bif (!(r3.1.headD .undef).pv.toBool) then
      some ([.p (.bool false)], [])
    else
      (C 12 [.p (.list true [.int .i64, .int .i64, .int .i64] l)] []).bind fun r4 =>
      bif (!(r4.1.headD .undef).pv.toBool) then
        bif ((((r2.1.headD .undef).freshList.length : Nat) : Int) == (0 : Int)) then
          bif ((r2.1.tail.headD .undef).pv.toInt == (2 : Int)) then
            (C 9 [] []).bind fun r5 =>
            some ([.p (.bool ((r5.1.headD .undef).pv.toBool))], [])
          else
            some ([.p (.bool false)], [])
        else
          some ([.p (.bool false)], [])
      else
        bif (((l.length : Nat) : Int) == (0 : Int)) then
          bif ((((r2.1.headD .undef).freshList.length : Nat) : Int) == (0 : Int)) then
            bif ((r2.1.tail.headD .undef).pv.toInt == (9 : Int)) then
              (C 9 [] []).bind fun r6 =>
              some ([.p (.bool ((r6.1.headD .undef).pv.toBool))], [])
            else
              some ([.p (.bool false)], [])
          else
            some ([.p (.bool false)], [])
        else
          (C 13 [.p (.list true [.int .i64, .int .i64, .int .i64] l)] []).bind fun r7 =>
          (C 11 [.p (.list true [.int .i64, .int .i64, .int .i64] ((((r2.1.headD .undef).freshList).drop 0).take ((r2.1.headD .undef).freshList.length))), .p (.list true [.int .i64, .int .i64, .int .i64] ((((r7.1.headD .undef).freshList).drop 0).take ((r7.1.headD .undef).freshList.length)))] []).bind fun r8 =>
          bif (r8.1.headD .undef).pv.toBool then
            bif ((r2.1.tail.headD .undef).pv.toInt == (0 : Int)) then
              (C 9 [] []).bind fun r9 =>
              some ([.p (.bool ((r9.1.headD .undef).pv.toBool))], [])
            else
              some ([.p (.bool false)], [])
          else
            some ([.p (.bool false)], []) else none := by kernel_rfl
/- skylanternlaw07.HullSides -/
theorem e4 (C : CallF) (h : List PV) (p_0 : Int) (p_1 : Int) (p_2 : Int) : acallI tab C 4 [.p (.list true [.int .i64, .int .i64, .int .i64] h), .p (.agg [.int .i64 p_0, .int .i64 p_1, .int .i64 p_2])] [] =
  bif (decide (((h.length : Nat) : Int) > (10 : Int))) then
    (C 9 [] []).bind fun r1 =>
    some ([.p (.bool ((r1.1.headD .undef).pv.toBool))], [])
  else
    (C 14 [.p (.list true [.int .i64, .int .i64, .int .i64] h), .p (.agg [.int .i64 p_0, .int .i64 p_1, .int .i64 p_2])] []).bind fun r2 =>
    (C 15 [.p (.list true [.int .i64, .int .i64, .int .i64] h)] []).bind fun r3 =>
    (C 16 [.p (.list true [.int .i64, .int .i64, .int .i64] h)] []).bind fun r4 =>
    bif (!((r4.1.headD .undef).pv.toBool == (r3.1.headD .undef).pv.toBool)) then
      some ([.p (.bool false)], [])
    else
      bif (!(r3.1.headD .undef).pv.toBool) then
        bif ((r2.1.headD .undef).pv.toInt == (0 : Int)) then
          bif ((r2.1.tail.headD .undef).pv.toInt == (2 : Int)) then
            (C 9 [] []).bind fun r5 =>
            some ([.p (.bool ((r5.1.headD .undef).pv.toBool))], [])
          else
            some ([.p (.bool false)], [])
        else
          some ([.p (.bool false)], [])
      else
        (C 17 [.p (.agg [.int .i64 p_0, .int .i64 p_1, .int .i64 p_2])] []).bind fun r6 =>
        bif (!(r6.1.headD .undef).pv.toBool) then
          bif ((r2.1.headD .undef).pv.toInt == (0 : Int)) then
            bif ((r2.1.tail.headD .undef).pv.toInt == (2 : Int)) then
              (C 9 [] []).bind fun r7 =>
              some ([.p (.bool ((r7.1.headD .undef).pv.toBool))], [])
            else
              some ([.p (.bool false)], [])
          else
            some ([.p (.bool false)], [])
        else
          (C 18 [.p (.list true [.int .i64, .int .i64, .int .i64] h), .p (.agg [.int .i64 p_0, .int .i64 p_1, .int .i64 p_2])] []).bind fun r8 =>
          bif ((r2.1.headD .undef).pv.toInt == (r8.1.headD .undef).pv.toInt) then
            bif ((r2.1.tail.headD .undef).pv.toInt == (0 : Int)) then
              (C 9 [] []).bind fun r9 =>
              some ([.p (.bool ((r9.1.headD .undef).pv.toBool))], [])
            else
              some ([.p (.bool false)], [])
          else
            some ([.p (.bool false)], []) := by kernel_rfl
/- skylanternlaw07.HullSizes -/
theorem e5 (C : CallF) (h : List PV) (direction_0 : Int) (direction_1 : Int) (direction_2 : Int) : acallI tab C 5 [.p (.list true [.int .i64, .int .i64, .int .i64] h), .p (.agg [.int .i64 direction_0, .int .i64 direction_1, .int .i64 direction_2])] [] =
  bif (decide (((h.length : Nat) : Int) > (10 : Int))) then
    (C 9 [] []).bind fun r1 =>
    some ([.p (.bool ((r1.1.headD .undef).pv.toBool))], [])
  else
    (C 19 [.p (.list true [.int .i64, .int .i64, .int .i64] h)] []).bind fun r2 =>
    (C 20 [.p (.list true [.int .i64, .int .i64, .int .i64] h)] []).bind fun r3 =>
    (C 21 [.p (.list true [.int .i64, .int .i64, .int .i64] h), .p (.agg [.int .i64 direction_0, .int .i64 direction_1, .int .i64 direction_2])] []).bind fun r4 =>
    (C 15 [.p (.list true [.int .i64, .int .i64, .int .i64] h)] []).bind fun r5 =>
    bif (!(r5.1.headD .undef).pv.toBool) then
      bif ((r2.1.headD .undef).pv.toInt == (0 : Int)) then
        bif ((r2.1.tail.headD .undef).pv.toInt == (2 : Int)) then
          bif ((r3.1.headD .undef).pv.toInt == (0 : Int)) then
            bif ((r3.1.tail.headD .undef).pv.toInt == (0 : Int)) then
              bif ((r3.1.tail.tail.headD .undef).pv.toInt == (0 : Int)) then
                bif ((r3.1.tail.tail.tail.headD .undef).pv.toInt == (2 : Int)) then
                  bif ((r4.1.headD .undef).pv.toInt == (0 : Int)) then
                    bif ((r4.1.tail.headD .undef).pv.toInt == (0 : Int)) then
                      bif ((r4.1.tail.tail.headD .undef).pv.toInt == (2 : Int)) then
                        (C 9 [] []).bind fun r6 =>
                        some ([.p (.bool ((r6.1.headD .undef).pv.toBool))], [])
                      else
                        some ([.p (.bool false)], [])
                    else
                      some ([.p (.bool false)], [])
                  else
                    some ([.p (.bool false)], [])
                else
                  some ([.p (.bool false)], [])
              else
                some ([.p (.bool false)], [])
            else
              some ([.p (.bool false)], [])
          else
            some ([.p (.bool false)], [])
        else
          some ([.p (.bool false)], [])
      else
        some ([.p (.bool false)], [])
    else
      (C 22 [.p (.list true [.int .i64, .int .i64, .int .i64] h)] []).bind fun r7 =>
      (C 23 [.p (.list true [.int .i64, .int .i64, .int .i64] h)] []).bind fun r8 =>
      bif ((r2.1.headD .undef).pv.toInt != (r8.1.headD .undef).pv.toInt) then
        some ([.p (.bool false)], [])
      else
        bif ((r2.1.tail.headD .undef).pv.toInt != (0 : Int)) then
          some ([.p (.bool false)], [])
        else
          bif ((r3.1.headD .undef).pv.toInt != (r7.1.headD .undef).pv.toInt) then
            some ([.p (.bool false)], [])
          else
            bif ((r3.1.tail.headD .undef).pv.toInt != (r7.1.tail.headD .undef).pv.toInt) then
              some ([.p (.bool false)], [])
            else
              bif ((r3.1.tail.tail.headD .undef).pv.toInt != (r7.1.tail.tail.headD .undef).pv.toInt) then
                some ([.p (.bool false)], [])
              else
                bif ((r3.1.tail.tail.tail.headD .undef).pv.toInt != (0 : Int)) then
                  some ([.p (.bool false)], [])
                else
                  (C 24 [.p (.agg [.int .i64 direction_0, .int .i64 direction_1, .int .i64 direction_2])] []).bind fun r9 =>
                  bif (!(r9.1.headD .undef).pv.toBool) then
                    bif ((r4.1.headD .undef).pv.toInt == (0 : Int)) then
                      bif ((r4.1.tail.headD .undef).pv.toInt == (0 : Int)) then
                        bif ((r4.1.tail.tail.headD .undef).pv.toInt == (2 : Int)) then
                          (C 9 [] []).bind fun r10 =>
                          some ([.p (.bool ((r10.1.headD .undef).pv.toBool))], [])
                        else
                          some ([.p (.bool false)], [])
                      else
                        some ([.p (.bool false)], [])
                    else
                      some ([.p (.bool false)], [])
                  else
                    (C 25 [.p (.list true [.int .i64, .int .i64, .int .i64] h), .p (.agg [.int .i64 direction_0, .int .i64 direction_1, .int .i64 direction_2])] []).bind fun r11 =>
                    bif ((r4.1.headD .undef).pv.toInt == (r11.1.headD .undef).pv.toInt) then
                      bif ((r4.1.tail.headD .undef).pv.toInt == (r11.1.tail.headD .undef).pv.toInt) then
                        bif ((r4.1.tail.tail.headD .undef).pv.toInt == (0 : Int)) then
                          (C 9 [] []).bind fun r12 =>
                          some ([.p (.bool ((r12.1.headD .undef).pv.toBool))], [])
                        else
                          some ([.p (.bool false)], [])
                      else
                        some ([.p (.bool false)], [])
                    else
                      some ([.p (.bool false)], []) := by kernel_rfl
/- skylanternlaw07.HullMerges -/
theorem e6 (C : CallF) (a : List PV) (b : List PV) : acallI tab C 6 [.p (.list true [.int .i64, .int .i64, .int .i64] a), .p (.list true [.int .i64, .int .i64, .int .i64] b)] [] =
  bif (decide (((a.length : Nat) : Int) > (7 : Int))) then
    (C 9 [] []).bind fun r1 =>
    some ([.p (.bool ((r1.1.headD .undef).pv.toBool))], [])
  else
    bif (decide (((b.length : Nat) : Int) > (7 : Int))) then
      (C 9 [] []).bind fun r2 =>
      some ([.p (.bool ((r2.1.headD .undef).pv.toBool))], [])
    else
      (C 26 [.p (.list true [.int .i64, .int .i64, .int .i64] a), .p (.list true [.int .i64, .int .i64, .int .i64] b)] []).bind fun r3 =>
      (C 15 [.p (.list true [.int .i64, .int .i64, .int .i64] a)] []).bind fun r4 =>
      bif (!(r4.1.headD .undef).pv.toBool) then
        bif ((((r3.1.headD .undef).freshList.length : Nat) : Int) == (0 : Int)) then
          bif ((r3.1.tail.headD .undef).pv.toInt == (2 : Int)) then
            (C 9 [] []).bind fun r5 =>
            some ([.p (.bool ((r5.1.headD .undef).pv.toBool))], [])
          else
            some ([.p (.bool false)], [])
        else
          some ([.p (.bool false)], [])
      else
        (C 15 [.p (.list true [.int .i64, .int .i64, .int .i64] b)] []).bind fun r6 =>
        bif (!(r6.1.headD .undef).pv.toBool) then
          bif ((((r3.1.headD .undef).freshList.length : Nat) : Int) == (0 : Int)) then
            bif ((r3.1.tail.headD .undef).pv.toInt == (2 : Int)) then
              (C 9 [] []).bind fun r7 =>
              some ([.p (.bool ((r7.1.headD .undef).pv.toBool))], [])
            else
              some ([.p (.bool false)], [])
          else
            some ([.p (.bool false)], [])
        else
          bif (decide (a.length ≤ 2147483648)) then bif (decide ((a.length + b.length) ≤ 2147483648)) then (C 13 [.p (.list true [.int .i64, .int .i64, .int .i64] (((((a.drop 0).take a.length) ++ b).drop 0).take (a.length + b.length)))] []).bind fun r8 =>
          (C 11 [.p (.list true [.int .i64, .int .i64, .int .i64] ((((r3.1.headD .undef).freshList).drop 0).take ((r3.1.headD .undef).freshList.length))), .p (.list true [.int .i64, .int .i64, .int .i64] ((((r8.1.headD .undef).freshList).drop 0).take ((r8.1.headD .undef).freshList.length)))] []).bind fun r9 =>
          bif (r9.1.headD .undef).pv.toBool then
            bif ((r3.1.tail.headD .undef).pv.toInt == (0 : Int)) then
              (C 9 [] []).bind fun r10 =>
              some ([.p (.bool ((r10.1.headD .undef).pv.toBool))], [])
            else
              some ([.p (.bool false)], [])
          else
            some ([.p (.bool false)], []) else none else none := by kernel_rfl
/- skylanternlaw07.HullGrids -/
def S7_111010 (rows' : Int) (columns' : Int) (step' : Int) (l_o : Nat) (l_l : Nat) (i' : Int) (l_b : List PV) : St := ⟨(.p (.int .i64 rows')) :: (.p (.int .i64 columns')) :: (.p (.int .i64 step')) :: .undef :: .undef :: .undef :: .undef :: (.slice 7 3 l_o l_l) :: (.p (.int .i64 i')) :: List.replicate 145 .undef, [(7, .arr true [.int .i64, .int .i64, .int .i64] l_b)]⟩
def S7_111010_10010 (rows' : Int) (columns' : Int) (step' : Int) (l_o : Nat) (l_l : Nat) (i' : Int) (k' : Int) (l_b : List PV) : St := ⟨(.p (.int .i64 rows')) :: (.p (.int .i64 columns')) :: (.p (.int .i64 step')) :: .undef :: .undef :: .undef :: .undef :: (.slice 7 3 l_o l_l) :: (.p (.int .i64 i')) :: (.p (.int .i64 k')) :: List.replicate 144 .undef, [(7, .arr true [.int .i64, .int .i64, .int .i64] l_b)]⟩
def S7_1111111111100 (l_o : Nat) (l_l : Nat) (l_b : List PV) : St := ⟨.undef :: .undef :: .undef :: .undef :: .undef :: .undef :: .undef :: (.slice 7 3 l_o l_l) :: List.replicate 146 .undef, [(7, .arr true [.int .i64, .int .i64, .int .i64] l_b)]⟩
theorem e7 (C : CallF) (rows : Int) (columns : Int) (step : Int) : acallI tab C 7 [.p (.int .i64 rows), .p (.int .i64 columns), .p (.int .i64 step)] [] =
  bif (decide (rows < (1 : Int))) then
    (C 9 [] []).bind fun r1 =>
    some ([.p (.bool ((r1.1.headD .undef).pv.toBool))], [])
  else
    bif (decide (rows > (100 : Int))) then
      (C 9 [] []).bind fun r2 =>
      some ([.p (.bool ((r2.1.headD .undef).pv.toBool))], [])
    else
      bif (decide (columns < (1 : Int))) then
        (C 9 [] []).bind fun r3 =>
        some ([.p (.bool ((r3.1.headD .undef).pv.toBool))], [])
      else
        bif (decide (columns > (100 : Int))) then
          (C 9 [] []).bind fun r4 =>
          some ([.p (.bool ((r4.1.headD .undef).pv.toBool))], [])
        else
          bif (decide (step < (1 : Int))) then
            (C 9 [] []).bind fun r5 =>
            some ([.p (.bool ((r5.1.headD .undef).pv.toBool))], [])
          else
            bif (decide (step > (1000 : Int))) then
              (C 9 [] []).bind fun r6 =>
              some ([.p (.bool ((r6.1.headD .undef).pv.toBool))], [])
            else
              L tab C 7 [] [[1, 1, 1, 0, 1, 0]] (S7_111010 rows columns step 0 0 0 []) := by kernel_rfl
theorem e7_111010 (C : CallF) (rows' : Int) (columns' : Int) (step' : Int) (l_o : Nat) (l_l : Nat) (i' : Int) (l_b : List PV) : R tab C 7 [] [[1, 1, 1, 0, 1, 0]] (S7_111010 rows' columns' step' l_o l_l i' l_b) =
  bif (decide (i' < rows')) then
    L tab C 7 [] [[1, 1, 1, 0, 1, 0], [1, 0, 0, 1, 0]] (S7_111010_10010 rows' columns' step' l_o l_l i' 0 l_b)
  else
    (C 27 [.p (.list false [.int .i64] [.int .i64 0, .int .i64 0, .int .i64 (IntKind.i64.wrap ((IntKind.i64.wrap (columns' - (1 : Int))) * step')), .int .i64 0, .int .i64 (IntKind.i64.wrap ((IntKind.i64.wrap (columns' - (1 : Int))) * step')), .int .i64 (IntKind.i64.wrap ((IntKind.i64.wrap (rows' - (1 : Int))) * step')), .int .i64 0, .int .i64 (IntKind.i64.wrap ((IntKind.i64.wrap (rows' - (1 : Int))) * step'))])] []).bind fun r1 =>
    bif (rows' == (1 : Int)) then
      bif (columns' == (1 : Int)) then
        (C 27 [.p (.list false [.int .i64] [.int .i64 0, .int .i64 0])] []).bind fun r2 =>
        (C 10 [.p (.list true [.int .i64, .int .i64, .int .i64] ((l_b.drop l_o).take l_l))] []).bind fun r3 =>
        (C 11 [.p (.list true [.int .i64, .int .i64, .int .i64] ((((r3.1.headD .undef).freshList).drop 0).take ((r3.1.headD .undef).freshList.length))), .p (.list true [.int .i64, .int .i64, .int .i64] ((((r2.1.headD .undef).freshList).drop 0).take ((r2.1.headD .undef).freshList.length)))] []).bind fun r4 =>
        bif (!(r4.1.headD .undef).pv.toBool) then
          some ([.p (.bool false)], [])
        else
          bif ((r3.1.tail.headD .undef).pv.toInt != (0 : Int)) then
            some ([.p (.bool false)], [])
          else
            (C 19 [.p (.list true [.int .i64, .int .i64, .int .i64] ((((r3.1.headD .undef).freshList).drop 0).take ((r3.1.headD .undef).freshList.length)))] []).bind fun r5 =>
            bif ((r5.1.headD .undef).pv.toInt != (IntKind.i64.wrap ((IntKind.i64.wrap ((2 : Int) * (IntKind.i64.wrap ((IntKind.i64.wrap (columns' - (1 : Int))) * step')))) * (IntKind.i64.wrap ((IntKind.i64.wrap (rows' - (1 : Int))) * step'))))) then
              some ([.p (.bool false)], [])
            else
              bif ((r5.1.tail.headD .undef).pv.toInt != (0 : Int)) then
                some ([.p (.bool false)], [])
              else
                L tab C 7 [] [[1, 1, 1, 1, 1, 1, 1, 1, 1, 1, 1, 0, 0]] (S7_1111111111100 l_o l_l l_b)
      else
        bif (rows' == (1 : Int)) then
          (C 27 [.p (.list false [.int .i64] [.int .i64 0, .int .i64 0, .int .i64 (IntKind.i64.wrap ((IntKind.i64.wrap (columns' - (1 : Int))) * step')), .int .i64 0])] []).bind fun r6 =>
          (C 10 [.p (.list true [.int .i64, .int .i64, .int .i64] ((l_b.drop l_o).take l_l))] []).bind fun r7 =>
          (C 11 [.p (.list true [.int .i64, .int .i64, .int .i64] ((((r7.1.headD .undef).freshList).drop 0).take ((r7.1.headD .undef).freshList.length))), .p (.list true [.int .i64, .int .i64, .int .i64] ((((r6.1.headD .undef).freshList).drop 0).take ((r6.1.headD .undef).freshList.length)))] []).bind fun r8 =>
          bif (!(r8.1.headD .undef).pv.toBool) then
            some ([.p (.bool false)], [])
          else
            bif ((r7.1.tail.headD .undef).pv.toInt != (0 : Int)) then
              some ([.p (.bool false)], [])
            else
              (C 19 [.p (.list true [.int .i64, .int .i64, .int .i64] ((((r7.1.headD .undef).freshList).drop 0).take ((r7.1.headD .undef).freshList.length)))] []).bind fun r9 =>
              bif ((r9.1.headD .undef).pv.toInt != (IntKind.i64.wrap ((IntKind.i64.wrap ((2 : Int) * (IntKind.i64.wrap ((IntKind.i64.wrap (columns' - (1 : Int))) * step')))) * (IntKind.i64.wrap ((IntKind.i64.wrap (rows' - (1 : Int))) * step'))))) then
                some ([.p (.bool false)], [])
              else
                bif ((r9.1.tail.headD .undef).pv.toInt != (0 : Int)) then
                  some ([.p (.bool false)], [])
                else
                  L tab C 7 [] [[1, 1, 1, 1, 1, 1, 1, 1, 1, 1, 1, 0, 0]] (S7_1111111111100 l_o l_l l_b)
        else
          bif (columns' == (1 : Int)) then
            (C 27 [.p (.list false [.int .i64] [.int .i64 0, .int .i64 0, .int .i64 0, .int .i64 (IntKind.i64.wrap ((IntKind.i64.wrap (rows' - (1 : Int))) * step'))])] []).bind fun r10 =>
            (C 10 [.p (.list true [.int .i64, .int .i64, .int .i64] ((l_b.drop l_o).take l_l))] []).bind fun r11 =>
            (C 11 [.p (.list true [.int .i64, .int .i64, .int .i64] ((((r11.1.headD .undef).freshList).drop 0).take ((r11.1.headD .undef).freshList.length))), .p (.list true [.int .i64, .int .i64, .int .i64] ((((r10.1.headD .undef).freshList).drop 0).take ((r10.1.headD .undef).freshList.length)))] []).bind fun r12 =>
            bif (!(r12.1.headD .undef).pv.toBool) then
              some ([.p (.bool false)], [])
            else
              bif ((r11.1.tail.headD .undef).pv.toInt != (0 : Int)) then
                some ([.p (.bool false)], [])
              else
                (C 19 [.p (.list true [.int .i64, .int .i64, .int .i64] ((((r11.1.headD .undef).freshList).drop 0).take ((r11.1.headD .undef).freshList.length)))] []).bind fun r13 =>
                bif ((r13.1.headD .undef).pv.toInt != (IntKind.i64.wrap ((IntKind.i64.wrap ((2 : Int) * (IntKind.i64.wrap ((IntKind.i64.wrap (columns' - (1 : Int))) * step')))) * (IntKind.i64.wrap ((IntKind.i64.wrap (rows' - (1 : Int))) * step'))))) then
                  some ([.p (.bool false)], [])
                else
                  bif ((r13.1.tail.headD .undef).pv.toInt != (0 : Int)) then
                    some ([.p (.bool false)], [])
                  else
                    L tab C 7 [] [[1, 1, 1, 1, 1, 1, 1, 1, 1, 1, 1, 0, 0]] (S7_1111111111100 l_o l_l l_b)
          else
            (C 10 [.p (.list true [.int .i64, .int .i64, .int .i64] ((l_b.drop l_o).take l_l))] []).bind fun r14 =>
            (C 11 [.p (.list true [.int .i64, .int .i64, .int .i64] ((((r14.1.headD .undef).freshList).drop 0).take ((r14.1.headD .undef).freshList.length))), .p (.list true [.int .i64, .int .i64, .int .i64] ((((r1.1.headD .undef).freshList).drop 0).take ((r1.1.headD .undef).freshList.length)))] []).bind fun r15 =>
            bif (!(r15.1.headD .undef).pv.toBool) then
              some ([.p (.bool false)], [])
            else
              bif ((r14.1.tail.headD .undef).pv.toInt != (0 : Int)) then
                some ([.p (.bool false)], [])
              else
                (C 19 [.p (.list true [.int .i64, .int .i64, .int .i64] ((((r14.1.headD .undef).freshList).drop 0).take ((r14.1.headD .undef).freshList.length)))] []).bind fun r16 =>
                bif ((r16.1.headD .undef).pv.toInt != (IntKind.i64.wrap ((IntKind.i64.wrap ((2 : Int) * (IntKind.i64.wrap ((IntKind.i64.wrap (columns' - (1 : Int))) * step')))) * (IntKind.i64.wrap ((IntKind.i64.wrap (rows' - (1 : Int))) * step'))))) then
                  some ([.p (.bool false)], [])
                else
                  bif ((r16.1.tail.headD .undef).pv.toInt != (0 : Int)) then
                    some ([.p (.bool false)], [])
                  else
                    L tab C 7 [] [[1, 1, 1, 1, 1, 1, 1, 1, 1, 1, 1, 0, 0]] (S7_1111111111100 l_o l_l l_b)
    else
      bif (rows' == (1 : Int)) then
        (C 27 [.p (.list false [.int .i64] [.int .i64 0, .int .i64 0, .int .i64 (IntKind.i64.wrap ((IntKind.i64.wrap (columns' - (1 : Int))) * step')), .int .i64 0])] []).bind fun r17 =>
        (C 10 [.p (.list true [.int .i64, .int .i64, .int .i64] ((l_b.drop l_o).take l_l))] []).bind fun r18 =>
        (C 11 [.p (.list true [.int .i64, .int .i64, .int .i64] ((((r18.1.headD .undef).freshList).drop 0).take ((r18.1.headD .undef).freshList.length))), .p (.list true [.int .i64, .int .i64, .int .i64] ((((r17.1.headD .undef).freshList).drop 0).take ((r17.1.headD .undef).freshList.length)))] []).bind fun r19 =>
        bif (!(r19.1.headD .undef).pv.toBool) then
          some ([.p (.bool false)], [])
        else
          bif ((r18.1.tail.headD .undef).pv.toInt != (0 : Int)) then
            some ([.p (.bool false)], [])
          else
            (C 19 [.p (.list true [.int .i64, .int .i64, .int .i64] ((((r18.1.headD .undef).freshList).drop 0).take ((r18.1.headD .undef).freshList.length)))] []).bind fun r20 =>
            bif ((r20.1.headD .undef).pv.toInt != (IntKind.i64.wrap ((IntKind.i64.wrap ((2 : Int) * (IntKind.i64.wrap ((IntKind.i64.wrap (columns' - (1 : Int))) * step')))) * (IntKind.i64.wrap ((IntKind.i64.wrap (rows' - (1 : Int))) * step'))))) then
              some ([.p (.bool false)], [])
            else
              bif ((r20.1.tail.headD .undef).pv.toInt != (0 : Int)) then
                some ([.p (.bool false)], [])
              else
                L tab C 7 [] [[1, 1, 1, 1, 1, 1, 1, 1, 1, 1, 1, 0, 0]] (S7_1111111111100 l_o l_l l_b)
      else
        bif (columns' == (1 : Int)) then
          (C 27 [.p (.list false [.int .i64] [.int .i64 0, .int .i64 0, .int .i64 0, .int .i64 (IntKind.i64.wrap ((IntKind.i64.wrap (rows' - (1 : Int))) * step'))])] []).bind fun r21 =>
          (C 10 [.p (.list true [.int .i64, .int .i64, .int .i64] ((l_b.drop l_o).take l_l))] []).bind fun r22 =>
          (C 11 [.p (.list true [.int .i64, .int .i64, .int .i64] ((((r22.1.headD .undef).freshList).drop 0).take ((r22.1.headD .undef).freshList.length))), .p (.list true [.int .i64, .int .i64, .int .i64] ((((r21.1.headD .undef).freshList).drop 0).take ((r21.1.headD .undef).freshList.length)))] []).bind fun r23 =>
          bif (!(r23.1.headD .undef).pv.toBool) then
            some ([.p (.bool false)], [])
          else
            bif ((r22.1.tail.headD .undef).pv.toInt != (0 : Int)) then
              some ([.p (.bool false)], [])
            else
              (C 19 [.p (.list true [.int .i64, .int .i64, .int .i64] ((((r22.1.headD .undef).freshList).drop 0).take ((r22.1.headD .undef).freshList.length)))] []).bind fun r24 =>
              bif ((r24.1.headD .undef).pv.toInt != (IntKind.i64.wrap ((IntKind.i64.wrap ((2 : Int) * (IntKind.i64.wrap ((IntKind.i64.wrap (columns' - (1 : Int))) * step')))) * (IntKind.i64.wrap ((IntKind.i64.wrap (rows' - (1 : Int))) * step'))))) then
                some ([.p (.bool false)], [])
              else
                bif ((r24.1.tail.headD .undef).pv.toInt != (0 : Int)) then
                  some ([.p (.bool false)], [])
                else
                  L tab C 7 [] [[1, 1, 1, 1, 1, 1, 1, 1, 1, 1, 1, 0, 0]] (S7_1111111111100 l_o l_l l_b)
        else
          (C 10 [.p (.list true [.int .i64, .int .i64, .int .i64] ((l_b.drop l_o).take l_l))] []).bind fun r25 =>
          (C 11 [.p (.list true [.int .i64, .int .i64, .int .i64] ((((r25.1.headD .undef).freshList).drop 0).take ((r25.1.headD .undef).freshList.length))), .p (.list true [.int .i64, .int .i64, .int .i64] ((((r1.1.headD .undef).freshList).drop 0).take ((r1.1.headD .undef).freshList.length)))] []).bind fun r26 =>
          bif (!(r26.1.headD .undef).pv.toBool) then
            some ([.p (.bool false)], [])
          else
            bif ((r25.1.tail.headD .undef).pv.toInt != (0 : Int)) then
              some ([.p (.bool false)], [])
            else
              (C 19 [.p (.list true [.int .i64, .int .i64, .int .i64] ((((r25.1.headD .undef).freshList).drop 0).take ((r25.1.headD .undef).freshList.length)))] []).bind fun r27 =>
              bif ((r27.1.headD .undef).pv.toInt != (IntKind.i64.wrap ((IntKind.i64.wrap ((2 : Int) * (IntKind.i64.wrap ((IntKind.i64.wrap (columns' - (1 : Int))) * step')))) * (IntKind.i64.wrap ((IntKind.i64.wrap (rows' - (1 : Int))) * step'))))) then
                some ([.p (.bool false)], [])
              else
                bif ((r27.1.tail.headD .undef).pv.toInt != (0 : Int)) then
                  some ([.p (.bool false)], [])
                else
                  L tab C 7 [] [[1, 1, 1, 1, 1, 1, 1, 1, 1, 1, 1, 0, 0]] (S7_1111111111100 l_o l_l l_b) := by kernel_rfl
theorem e7_111010_10010 (C : CallF) (rows' : Int) (columns' : Int) (step' : Int) (l_o : Nat) (l_l : Nat) (i' : Int) (k' : Int) (l_b : List PV) : R tab C 7 [] [[1, 1, 1, 0, 1, 0], [1, 0, 0, 1, 0]] (S7_111010_10010 rows' columns' step' l_o l_l i' k' l_b) =
  bif (decide (k' < columns')) then
    bif (decide ((l_l + 1) ≤ 2147483648)) then L tab C 7 [] [[1, 1, 1, 0, 1, 0], [1, 0, 0, 1, 0]] (S7_111010_10010 rows' columns' step' 0 (l_l + 1) i' (IntKind.i64.wrap (k' + (1 : Int))) (((l_b.drop l_o).take l_l) ++ ([.agg [.int .i64 (IntKind.i64.wrap (k' * step')), .int .i64 (IntKind.i64.wrap (i' * step')), .int .i64 (IntKind.i64.wrap (i' + k'))]] : List PV))) else none
  else
    L tab C 7 [] [[1, 1, 1, 0, 1, 0]] (S7_111010 rows' columns' step' l_o l_l (IntKind.i64.wrap (i' + (1 : Int))) l_b) := by kernel_rfl
theorem e7_1111111111100 (C : CallF) (l_o : Nat) (l_l : Nat) (l_b : List PV) : R tab C 7 [] [[1, 1, 1, 1, 1, 1, 1, 1, 1, 1, 1, 0, 0]] (S7_1111111111100 l_o l_l l_b) =
  bif (decide ((l_l : Int) ≤ (10000 : Int))) then
    bif (decide ((l_l + 1) ≤ 2147483648)) then L tab C 7 [] [[1, 1, 1, 1, 1, 1, 1, 1, 1, 1, 1, 0, 0]] (S7_1111111111100 0 (l_l + 1) (((l_b.drop l_o).take l_l) ++ ([.agg [.int .i64 0, .int .i64 0, .int .i64 0]] : List PV))) else none
  else
    (C 10 [.p (.list true [.int .i64, .int .i64, .int .i64] ((l_b.drop l_o).take l_l))] []).bind fun r1 =>
    bif ((decide ((10000 : Int) ≤ (l_l : Int))) && (decide ((l_l : Int) ≤ (l_l : Int)))) then (C 10 [.p (.list true [.int .i64, .int .i64, .int .i64] ((l_b.drop (l_o + 0)).take 10000))] []).bind fun r2 =>
    bif ((r1.1.tail.headD .undef).pv.toInt == (2 : Int)) then
      bif ((r2.1.tail.headD .undef).pv.toInt == (0 : Int)) then
        (C 9 [] []).bind fun r3 =>
        some ([.p (.bool ((r3.1.headD .undef).pv.toBool))], [])
      else
        some ([.p (.bool false)], [])
    else
      some ([.p (.bool false)], []) else none := by kernel_rfl
/- skylanternlaw07.HullHolds -/
def S8_111111010 (l' : List PV) (m' : List PV) (h_o : Nat) (h_l : Nat) (i_o : Nat) (i_l : Nat) (t121' : List PV) (t122' : Int) (t123' : Int) (d_b0 : Int) (d_b1 : Int) (d_b2 : Int) (h_b : List PV) (i_b : List PV) : St := ⟨(.p (.list true [.int .i64, .int .i64, .int .i64] l')) :: (.p (.list true [.int .i64, .int .i64, .int .i64] m')) :: .undef :: .undef :: .undef :: (.ptr 5 0 0) :: .undef :: (.slice 7 3 h_o h_l) :: .undef :: (.slice 9 3 i_o i_l) :: .undef :: .undef :: .undef :: .undef :: .undef :: .undef :: .undef :: .undef :: .undef :: .undef :: .undef :: .undef :: .undef :: .undef :: .undef :: .undef :: .undef :: .undef :: .undef :: .undef :: .undef :: .undef :: .undef :: .undef :: .undef :: .undef :: .undef :: .undef :: .undef :: .undef :: .undef :: .undef :: .undef :: .undef :: .undef :: .undef :: .undef :: .undef :: .undef :: .undef :: .undef :: .undef :: .undef :: .undef :: .undef :: .undef :: .undef :: .undef :: .undef :: .undef :: .undef :: .undef :: .undef :: .undef :: .undef :: .undef :: .undef :: .undef :: .undef :: .undef :: .undef :: .undef :: .undef :: .undef :: .undef :: .undef :: .undef :: .undef :: .undef :: .undef :: .undef :: .undef :: .undef :: .undef :: .undef :: .undef :: .undef :: .undef :: .undef :: .undef :: .undef :: .undef :: .undef :: .undef :: .undef :: .undef :: .undef :: .undef :: .undef :: .undef :: .undef :: .undef :: .undef :: .undef :: .undef :: .undef :: .undef :: .undef :: .undef :: .undef :: .undef :: .undef :: .undef :: .undef :: .undef :: .undef :: .undef :: .undef :: .undef :: .undef :: .undef :: (.p (.list true [.int .i64, .int .i64, .int .i64] t121')) :: (.p (.int .i64 t122')) :: (.p (.int .i64 t123')) :: List.replicate 164 .undef, [(5, .box [.p (.int .i64 d_b0), .p (.int .i64 d_b1), .p (.int .i64 d_b2)]), (7, .arr true [.int .i64, .int .i64, .int .i64] h_b), (9, .arr true [.int .i64, .int .i64, .int .i64] i_b)]⟩
def S8_1111111010 (l' : List PV) (m' : List PV) (h_o : Nat) (h_l : Nat) (i_o : Nat) (i_l : Nat) (t140_o : Nat) (t140_l : Nat) (t141' : Int) (t142' : Int) (d_b0 : Int) (d_b1 : Int) (d_b2 : Int) (h_b : List PV) (i_b : List PV) : St := ⟨(.p (.list true [.int .i64, .int .i64, .int .i64] l')) :: (.p (.list true [.int .i64, .int .i64, .int .i64] m')) :: .undef :: .undef :: .undef :: (.ptr 5 0 0) :: .undef :: (.slice 7 3 h_o h_l) :: .undef :: (.slice 9 3 i_o i_l) :: .undef :: .undef :: .undef :: .undef :: .undef :: .undef :: .undef :: .undef :: .undef :: .undef :: .undef :: .undef :: .undef :: .undef :: .undef :: .undef :: .undef :: .undef :: .undef :: .undef :: .undef :: .undef :: .undef :: .undef :: .undef :: .undef :: .undef :: .undef :: .undef :: .undef :: .undef :: .undef :: .undef :: .undef :: .undef :: .undef :: .undef :: .undef :: .undef :: .undef :: .undef :: .undef :: .undef :: .undef :: .undef :: .undef :: .undef :: .undef :: .undef :: .undef :: .undef :: .undef :: .undef :: .undef :: .undef :: .undef :: .undef :: .undef :: .undef :: .undef :: .undef :: .undef :: .undef :: .undef :: .undef :: .undef :: .undef :: .undef :: .undef :: .undef :: .undef :: .undef :: .undef :: .undef :: .undef :: .undef :: .undef :: .undef :: .undef :: .undef :: .undef :: .undef :: .undef :: .undef :: .undef :: .undef :: .undef :: .undef :: .undef :: .undef :: .undef :: .undef :: .undef :: .undef :: .undef :: .undef :: .undef :: .undef :: .undef :: .undef :: .undef :: .undef :: .undef :: .undef :: .undef :: .undef :: .undef :: .undef :: .undef :: .undef :: .undef :: .undef :: .undef :: .undef :: .undef :: .undef :: .undef :: .undef :: .undef :: .undef :: .undef :: .undef :: .undef :: .undef :: .undef :: .undef :: .undef :: .undef :: .undef :: .undef :: (.slice 7 3 t140_o t140_l) :: (.p (.int .i64 t141')) :: (.p (.int .i64 t142')) :: List.replicate 145 .undef, [(5, .box [.p (.int .i64 d_b0), .p (.int .i64 d_b1), .p (.int .i64 d_b2)]), (7, .arr true [.int .i64, .int .i64, .int .i64] h_b), (9, .arr true [.int .i64, .int .i64, .int .i64] i_b)]⟩
def S8_1111111010_110011010 (l' : List PV) (m' : List PV) (h_o : Nat) (h_l : Nat) (i_o : Nat) (i_l : Nat) (found' : Bool) (t140_o : Nat) (t140_l : Nat) (t141' : Int) (t142' : Int) (t146' : List PV) (t147' : Int) (t148' : Int) (d_b0 : Int) (d_b1 : Int) (d_b2 : Int) (h_b : List PV) (i_b : List PV) (c_b0 : Int) (c_b1 : Int) (c_b2 : Int) : St := ⟨(.p (.list true [.int .i64, .int .i64, .int .i64] l')) :: (.p (.list true [.int .i64, .int .i64, .int .i64] m')) :: .undef :: .undef :: .undef :: (.ptr 5 0 0) :: .undef :: (.slice 7 3 h_o h_l) :: .undef :: (.slice 9 3 i_o i_l) :: .undef :: .undef :: .undef :: .undef :: .undef :: .undef :: .undef :: .undef :: (.ptr 18 0 0) :: (.p (.bool found')) :: .undef :: .undef :: .undef :: .undef :: .undef :: .undef :: .undef :: .undef :: .undef :: .undef :: .undef :: .undef :: .undef :: .undef :: .undef :: .undef :: .undef :: .undef :: .undef :: .undef :: .undef :: .undef :: .undef :: .undef :: .undef :: .undef :: .undef :: .undef :: .undef :: .undef :: .undef :: .undef :: .undef :: .undef :: .undef :: .undef :: .undef :: .undef :: .undef :: .undef :: .undef :: .undef :: .undef :: .undef :: .undef :: .undef :: .undef :: .undef :: .undef :: .undef :: .undef :: .undef :: .undef :: .undef :: .undef :: .undef :: .undef :: .undef :: .undef :: .undef :: .undef :: .undef :: .undef :: .undef :: .undef :: .undef :: .undef :: .undef :: .undef :: .undef :: .undef :: .undef :: .undef :: .undef :: .undef :: .undef :: .undef :: .undef :: .undef :: .undef :: .undef :: .undef :: .undef :: .undef :: .undef :: .undef :: .undef :: .undef :: .undef :: .undef :: .undef :: .undef :: .undef :: .undef :: .undef :: .undef :: .undef :: .undef :: .undef :: .undef :: .undef :: .undef :: .undef :: .undef :: .undef :: .undef :: .undef :: .undef :: .undef :: .undef :: .undef :: .undef :: .undef :: .undef :: .undef :: .undef :: .undef :: .undef :: .undef :: .undef :: (.slice 7 3 t140_o t140_l) :: (.p (.int .i64 t141')) :: (.p (.int .i64 t142')) :: .undef :: .undef :: .undef :: (.p (.list true [.int .i64, .int .i64, .int .i64] t146')) :: (.p (.int .i64 t147')) :: (.p (.int .i64 t148')) :: List.replicate 139 .undef, [(5, .box [.p (.int .i64 d_b0), .p (.int .i64 d_b1), .p (.int .i64 d_b2)]), (7, .arr true [.int .i64, .int .i64, .int .i64] h_b), (9, .arr true [.int .i64, .int .i64, .int .i64] i_b), (18, .box [.p (.int .i64 c_b0), .p (.int .i64 c_b1), .p (.int .i64 c_b2)])]⟩
theorem e8 (C : CallF) (l : List PV) (m : List PV) (d_0 : Int) (d_1 : Int) (d_2 : Int) : acallI tab C 8 [.p (.list true [.int .i64, .int .i64, .int .i64] l), .p (.list true [.int .i64, .int .i64, .int .i64] m), .p (.agg [.int .i64 d_0, .int .i64 d_1, .int .i64 d_2])] [] =
  bif (decide (((l.length : Nat) : Int) > (20 : Int))) then
    (C 9 [] []).bind fun r1 =>
    some ([.p (.bool ((r1.1.headD .undef).pv.toBool))], [])
  else
    bif (decide (((m.length : Nat) : Int) > (20 : Int))) then
      (C 9 [] []).bind fun r2 =>
      some ([.p (.bool ((r2.1.headD .undef).pv.toBool))], [])
    else
      bif (((l.length : Nat) : Int) == (0 : Int)) then
        (C 9 [] []).bind fun r3 =>
        some ([.p (.bool ((r3.1.headD .undef).pv.toBool))], [])
      else
        bif (((m.length : Nat) : Int) == (0 : Int)) then
          (C 9 [] []).bind fun r4 =>
          some ([.p (.bool ((r4.1.headD .undef).pv.toBool))], [])
        else
          (C 12 [.p (.list true [.int .i64, .int .i64, .int .i64] l)] []).bind fun r5 =>
          bif (!(r5.1.headD .undef).pv.toBool) then
            (C 9 [] []).bind fun r6 =>
            some ([.p (.bool ((r6.1.headD .undef).pv.toBool))], [])
          else
            (C 12 [.p (.list true [.int .i64, .int .i64, .int .i64] m)] []).bind fun r7 =>
            bif (!(r7.1.headD .undef).pv.toBool) then
              (C 9 [] []).bind fun r8 =>
              some ([.p (.bool ((r8.1.headD .undef).pv.toBool))], [])
            else
              bif (decide (d_0 < (-1000000 : Int))) then
                (C 9 [] []).bind fun r9 =>
                some ([.p (.bool ((r9.1.headD .undef).pv.toBool))], [])
              else
                bif (decide (d_0 > (1000000 : Int))) then
                  (C 9 [] []).bind fun r10 =>
                  some ([.p (.bool ((r10.1.headD .undef).pv.toBool))], [])
                else
                  bif (decide (d_1 < (-1000000 : Int))) then
                    (C 9 [] []).bind fun r11 =>
                    some ([.p (.bool ((r11.1.headD .undef).pv.toBool))], [])
                  else
                    bif (decide (d_1 > (1000000 : Int))) then
                      (C 9 [] []).bind fun r12 =>
                      some ([.p (.bool ((r12.1.headD .undef).pv.toBool))], [])
                    else
                      (C 24 [.p (.agg [.int .i64 d_0, .int .i64 d_1, .int .i64 d_2])] []).bind fun r13 =>
                      bif (!(r13.1.headD .undef).pv.toBool) then
                        (C 9 [] []).bind fun r14 =>
                        some ([.p (.bool ((r14.1.headD .undef).pv.toBool))], [])
                      else
                        (C 10 [.p (.list true [.int .i64, .int .i64, .int .i64] l)] []).bind fun r15 =>
                        (C 10 [.p (.list true [.int .i64, .int .i64, .int .i64] m)] []).bind fun r16 =>
                        (C 10 [.p (.list true [.int .i64, .int .i64, .int .i64] ((((r15.1.headD .undef).freshList).drop 0).take ((r15.1.headD .undef).freshList.length)))] []).bind fun r17 =>
                        bif ((r15.1.tail.headD .undef).pv.toInt != (0 : Int)) then
                          some ([.p (.bool false)], [])
                        else
                          bif ((r16.1.tail.headD .undef).pv.toInt != (0 : Int)) then
                            some ([.p (.bool false)], [])
                          else
                            bif ((r17.1.tail.headD .undef).pv.toInt != (0 : Int)) then
                              some ([.p (.bool false)], [])
                            else
                              (C 16 [.p (.list true [.int .i64, .int .i64, .int .i64] ((((r15.1.headD .undef).freshList).drop 0).take ((r15.1.headD .undef).freshList.length)))] []).bind fun r18 =>
                              bif (!(r18.1.headD .undef).pv.toBool) then
                                some ([.p (.bool false)], [])
                              else
                                (C 11 [.p (.list true [.int .i64, .int .i64, .int .i64] ((((r17.1.headD .undef).freshList).drop 0).take ((r17.1.headD .undef).freshList.length))), .p (.list true [.int .i64, .int .i64, .int .i64] ((((r15.1.headD .undef).freshList).drop 0).take ((r15.1.headD .undef).freshList.length)))] []).bind fun r19 =>
                                bif (!(r19.1.headD .undef).pv.toBool) then
                                  some ([.p (.bool false)], [])
                                else
                                  L tab C 8 [] [[1, 1, 1, 1, 1, 1, 0, 1, 0]] (S8_111111010 l m 0 ((r15.1.headD .undef).freshList.length) 0 ((r16.1.headD .undef).freshList.length) l ((l.length : Nat) : Int) 0 d_0 d_1 d_2 ((r15.1.headD .undef).freshList) ((r16.1.headD .undef).freshList)) := by kernel_rfl
theorem e8_111111010 (C : CallF) (l' : List PV) (m' : List PV) (h_o : Nat) (h_l : Nat) (i_o : Nat) (i_l : Nat) (t121' : List PV) (t122' : Int) (t123' : Int) (d_b0 : Int) (d_b1 : Int) (d_b2 : Int) (h_b : List PV) (i_b : List PV) : R tab C 8 [] [[1, 1, 1, 1, 1, 1, 0, 1, 0]] (S8_111111010 l' m' h_o h_l i_o i_l t121' t122' t123' d_b0 d_b1 d_b2 h_b i_b) =
  bif (decide (t123' < t122')) then
    bif ((decide ((0 : Int) ≤ t123')) && (decide (t123' < ((t121'.length : Nat) : Int)))) then (C 14 [.p (.list true [.int .i64, .int .i64, .int .i64] ((h_b.drop h_o).take h_l)), .p (.agg [.int .i64 (((t121'.getD t123'.toNat .nil).cell 0).toInt), .int .i64 (((t121'.getD t123'.toNat .nil).cell 1).toInt), .int .i64 (((t121'.getD t123'.toNat .nil).cell 2).toInt)])] []).bind fun r1 =>
    bif (decide ((r1.1.headD .undef).pv.toInt < (0 : Int))) then
      some ([.p (.bool false)], [])
    else
      bif ((r1.1.tail.headD .undef).pv.toInt != (0 : Int)) then
        some ([.p (.bool false)], [])
      else
        L tab C 8 [] [[1, 1, 1, 1, 1, 1, 0, 1, 0]] (S8_111111010 l' m' h_o h_l i_o i_l t121' t122' (IntKind.i64.wrap (t123' + (1 : Int))) d_b0 d_b1 d_b2 h_b i_b) else none
  else
    L tab C 8 [] [[1, 1, 1, 1, 1, 1, 1, 0, 1, 0]] (S8_1111111010 l' m' h_o h_l i_o i_l h_o h_l (h_l : Int) 0 d_b0 d_b1 d_b2 h_b i_b) := by kernel_rfl
theorem e8_1111111010 (C : CallF) (l' : List PV) (m' : List PV) (h_o : Nat) (h_l : Nat) (i_o : Nat) (i_l : Nat) (t140_o : Nat) (t140_l : Nat) (t141' : Int) (t142' : Int) (d_b0 : Int) (d_b1 : Int) (d_b2 : Int) (h_b : List PV) (i_b : List PV) : R tab C 8 [] [[1, 1, 1, 1, 1, 1, 1, 0, 1, 0]] (S8_1111111010 l' m' h_o h_l i_o i_l t140_o t140_l t141' t142' d_b0 d_b1 d_b2 h_b i_b) =
  bif (decide (t142' < t141')) then
    bif ((decide ((0 : Int) ≤ t142')) && (decide (t142' < (t140_l : Int)))) then L tab C 8 [] [[1, 1, 1, 1, 1, 1, 1, 0, 1, 0], [1, 1, 0, 0, 1, 1, 0, 1, 0]] (S8_1111111010_110011010 l' m' h_o h_l i_o i_l false t140_o t140_l t141' t142' l' ((l'.length : Nat) : Int) 0 d_b0 d_b1 d_b2 h_b i_b (((h_b.getD (t140_o + t142'.toNat) .nil).cell 0).toInt) (((h_b.getD (t140_o + t142'.toNat) .nil).cell 1).toInt) (((h_b.getD (t140_o + t142'.toNat) .nil).cell 2).toInt)) else none
  else
    (C 26 [.p (.list true [.int .i64, .int .i64, .int .i64] ((h_b.drop h_o).take h_l)), .p (.list true [.int .i64, .int .i64, .int .i64] ((i_b.drop i_o).take i_l))] []).bind fun r1 =>
    (C 26 [.p (.list true [.int .i64, .int .i64, .int .i64] ((i_b.drop i_o).take i_l)), .p (.list true [.int .i64, .int .i64, .int .i64] ((h_b.drop h_o).take h_l))] []).bind fun r2 =>
    (C 26 [.p (.list true [.int .i64, .int .i64, .int .i64] ((h_b.drop h_o).take h_l)), .p (.list true [.int .i64, .int .i64, .int .i64] ((h_b.drop h_o).take h_l))] []).bind fun r3 =>
    bif ((r1.1.tail.headD .undef).pv.toInt != (0 : Int)) then
      some ([.p (.bool false)], [])
    else
      bif ((r2.1.tail.headD .undef).pv.toInt != (0 : Int)) then
        some ([.p (.bool false)], [])
      else
        bif ((r3.1.tail.headD .undef).pv.toInt != (0 : Int)) then
          some ([.p (.bool false)], [])
        else
          (C 11 [.p (.list true [.int .i64, .int .i64, .int .i64] ((((r1.1.headD .undef).freshList).drop 0).take ((r1.1.headD .undef).freshList.length))), .p (.list true [.int .i64, .int .i64, .int .i64] ((((r2.1.headD .undef).freshList).drop 0).take ((r2.1.headD .undef).freshList.length)))] []).bind fun r4 =>
          bif (!(r4.1.headD .undef).pv.toBool) then
            some ([.p (.bool false)], [])
          else
            (C 11 [.p (.list true [.int .i64, .int .i64, .int .i64] ((((r3.1.headD .undef).freshList).drop 0).take ((r3.1.headD .undef).freshList.length))), .p (.list true [.int .i64, .int .i64, .int .i64] ((h_b.drop h_o).take h_l))] []).bind fun r5 =>
            bif (!(r5.1.headD .undef).pv.toBool) then
              some ([.p (.bool false)], [])
            else
              bif (decide (l'.length ≤ 2147483648)) then bif (decide ((l'.length + m'.length) ≤ 2147483648)) then (C 10 [.p (.list true [.int .i64, .int .i64, .int .i64] (((((l'.drop 0).take l'.length) ++ m').drop 0).take (l'.length + m'.length)))] []).bind fun r6 =>
              bif ((r6.1.tail.headD .undef).pv.toInt != (0 : Int)) then
                some ([.p (.bool false)], [])
              else
                (C 11 [.p (.list true [.int .i64, .int .i64, .int .i64] ((((r6.1.headD .undef).freshList).drop 0).take ((r6.1.headD .undef).freshList.length))), .p (.list true [.int .i64, .int .i64, .int .i64] ((((r1.1.headD .undef).freshList).drop 0).take ((r1.1.headD .undef).freshList.length)))] []).bind fun r7 =>
                bif (!(r7.1.headD .undef).pv.toBool) then
                  some ([.p (.bool false)], [])
                else
                  (C 19 [.p (.list true [.int .i64, .int .i64, .int .i64] ((h_b.drop h_o).take h_l))] []).bind fun r8 =>
                  bif ((r8.1.tail.headD .undef).pv.toInt != (0 : Int)) then
                    some ([.p (.bool false)], [])
                  else
                    bif (!((decide ((r8.1.headD .undef).pv.toInt > (0 : Int))) == (decide ((h_l : Int) > (2 : Int))))) then
                      some ([.p (.bool false)], [])
                    else
                      (C 21 [.p (.list true [.int .i64, .int .i64, .int .i64] ((h_b.drop h_o).take h_l)), .p (.agg [.int .i64 d_b0, .int .i64 d_b1, .int .i64 d_b2])] []).bind fun r9 =>
                      (C 28 [.p (.agg [.int .i64 d_b0, .int .i64 d_b1, .int .i64 d_b2])] []).bind fun r10 =>
                      (C 21 [.p (.list true [.int .i64, .int .i64, .int .i64] ((h_b.drop h_o).take h_l)), .p (.agg [.int .i64 (((r10.1.headD .undef).pv.cell 0).toInt), .int .i64 (((r10.1.headD .undef).pv.cell 1).toInt), .int .i64 (((r10.1.headD .undef).pv.cell 2).toInt)])] []).bind fun r11 =>
                      bif ((r9.1.tail.tail.headD .undef).pv.toInt == (0 : Int)) then
                        bif ((r11.1.tail.tail.headD .undef).pv.toInt == (0 : Int)) then
                          bif ((r9.1.headD .undef).pv.toInt == (IntKind.i64.wrap (0 - (r11.1.tail.headD .undef).pv.toInt))) then
                            bif ((r9.1.tail.headD .undef).pv.toInt == (IntKind.i64.wrap (0 - (r11.1.headD .undef).pv.toInt))) then
                              bif (decide ((r9.1.headD .undef).pv.toInt ≤ (r9.1.tail.headD .undef).pv.toInt)) then
                                (C 9 [] []).bind fun r12 =>
                                some ([.p (.bool ((r12.1.headD .undef).pv.toBool))], [])
                              else
                                some ([.p (.bool false)], [])
                            else
                              some ([.p (.bool false)], [])
                          else
                            some ([.p (.bool false)], [])
                        else
                          some ([.p (.bool false)], [])
                      else
                        some ([.p (.bool false)], []) else none else none := by kernel_rfl
theorem e8_1111111010_110011010 (C : CallF) (l' : List PV) (m' : List PV) (h_o : Nat) (h_l : Nat) (i_o : Nat) (i_l : Nat) (found' : Bool) (t140_o : Nat) (t140_l : Nat) (t141' : Int) (t142' : Int) (t146' : List PV) (t147' : Int) (t148' : Int) (d_b0 : Int) (d_b1 : Int) (d_b2 : Int) (h_b : List PV) (i_b : List PV) (c_b0 : Int) (c_b1 : Int) (c_b2 : Int) : R tab C 8 [] [[1, 1, 1, 1, 1, 1, 1, 0, 1, 0], [1, 1, 0, 0, 1, 1, 0, 1, 0]] (S8_1111111010_110011010 l' m' h_o h_l i_o i_l found' t140_o t140_l t141' t142' t146' t147' t148' d_b0 d_b1 d_b2 h_b i_b c_b0 c_b1 c_b2) =
  bif (decide (t148' < t147')) then
    bif ((decide ((0 : Int) ≤ t148')) && (decide (t148' < ((t146'.length : Nat) : Int)))) then bif found' then
      L tab C 8 [] [[1, 1, 1, 1, 1, 1, 1, 0, 1, 0], [1, 1, 0, 0, 1, 1, 0, 1, 0]] (S8_1111111010_110011010 l' m' h_o h_l i_o i_l true t140_o t140_l t141' t142' t146' t147' (IntKind.i64.wrap (t148' + (1 : Int))) d_b0 d_b1 d_b2 h_b i_b c_b0 c_b1 c_b2)
    else
      bif (((t146'.getD t148'.toNat .nil).cell 0).toInt == c_b0) then
        L tab C 8 [] [[1, 1, 1, 1, 1, 1, 1, 0, 1, 0], [1, 1, 0, 0, 1, 1, 0, 1, 0]] (S8_1111111010_110011010 l' m' h_o h_l i_o i_l (((t146'.getD t148'.toNat .nil).cell 1).toInt == c_b1) t140_o t140_l t141' t142' t146' t147' (IntKind.i64.wrap (t148' + (1 : Int))) d_b0 d_b1 d_b2 h_b i_b c_b0 c_b1 c_b2)
      else
        L tab C 8 [] [[1, 1, 1, 1, 1, 1, 1, 0, 1, 0], [1, 1, 0, 0, 1, 1, 0, 1, 0]] (S8_1111111010_110011010 l' m' h_o h_l i_o i_l false t140_o t140_l t141' t142' t146' t147' (IntKind.i64.wrap (t148' + (1 : Int))) d_b0 d_b1 d_b2 h_b i_b c_b0 c_b1 c_b2) else none
  else
    bif (!found') then
      some ([.p (.bool false)], [])
    else
      bif (c_b2 != (0 : Int)) then
        some ([.p (.bool false)], [])
      else
        L tab C 8 [] [[1, 1, 1, 1, 1, 1, 1, 0, 1, 0]] (S8_1111111010 l' m' h_o h_l i_o i_l t140_o t140_l t141' (IntKind.i64.wrap (t142' + (1 : Int))) d_b0 d_b1 d_b2 h_b i_b) := by kernel_rfl
/- skylanternlaw07.known -/
def S9_1111111010 (square_o : Nat) (square_l : Nat) (line_o : Nat) (line_l : Nat) (want_o : Nat) (want_l : Nat) (t77_o : Nat) (t77_l : Nat) (t78' : Int) (t79' : Int) (square_b : List PV) (line_b : List PV) (want_b : List PV) (b77_b : List PV) : St := ⟨.undef :: (.slice 1 3 square_o square_l) :: (.slice 2 3 line_o line_l) :: .undef :: .undef :: .undef :: .undef :: .undef :: .undef :: (.slice 9 1 want_o want_l) :: .undef :: .undef :: .undef :: .undef :: .undef :: .undef :: .undef :: .undef :: .undef :: .undef :: .undef :: .undef :: .undef :: .undef :: .undef :: .undef :: .undef :: .undef :: .undef :: .undef :: .undef :: .undef :: .undef :: .undef :: .undef :: .undef :: .undef :: .undef :: .undef :: .undef :: .undef :: .undef :: .undef :: .undef :: .undef :: .undef :: .undef :: .undef :: .undef :: .undef :: .undef :: .undef :: .undef :: .undef :: .undef :: .undef :: .undef :: .undef :: .undef :: .undef :: .undef :: .undef :: .undef :: .undef :: .undef :: .undef :: .undef :: .undef :: .undef :: .undef :: .undef :: .undef :: .undef :: .undef :: .undef :: .undef :: .undef :: (.slice 77 3 t77_o t77_l) :: (.p (.int .i64 t78')) :: (.p (.int .i64 t79')) :: List.replicate 116 .undef, [(1, .arr true [.int .i64, .int .i64, .int .i64] square_b), (2, .arr true [.int .i64, .int .i64, .int .i64] line_b), (9, .arr false [.int .i64] want_b), (77, .arr true [.int .i64, .int .i64, .int .i64] b77_b)]⟩
theorem e9 (C : CallF)  : acallI tab C 9 [] [] =
  (C 27 [.p (.list false [.int .i64] [.int .i64 0, .int .i64 0, .int .i64 2, .int .i64 0, .int .i64 2, .int .i64 2, .int .i64 0, .int .i64 2])] []).bind fun r1 =>
  (C 27 [.p (.list false [.int .i64] [.int .i64 1, .int .i64 1, .int .i64 3, .int .i64 3])] []).bind fun r2 =>
  (C 27 [.p (.list false [.int .i64] [.int .i64 0, .int .i64 0, .int .i64 2, .int .i64 0, .int .i64 1, .int .i64 1, .int .i64 2, .int .i64 2, .int .i64 0, .int .i64 2, .int .i64 1, .int .i64 0])] []).bind fun r3 =>
  (C 10 [.p (.list true [.int .i64, .int .i64, .int .i64] ((((r3.1.headD .undef).freshList).drop 0).take ((r3.1.headD .undef).freshList.length)))] []).bind fun r4 =>
  (C 27 [.p (.list false [.int .i64] [.int .i64 3, .int .i64 3, .int .i64 1, .int .i64 1, .int .i64 2, .int .i64 2])] []).bind fun r5 =>
  (C 10 [.p (.list true [.int .i64, .int .i64, .int .i64] ((((r5.1.headD .undef).freshList).drop 0).take ((r5.1.headD .undef).freshList.length)))] []).bind fun r6 =>
  (C 27 [.p (.list false [.int .i64] [.int .i64 5, .int .i64 5, .int .i64 5, .int .i64 5])] []).bind fun r7 =>
  (C 10 [.p (.list true [.int .i64, .int .i64, .int .i64] ((((r7.1.headD .undef).freshList).drop 0).take ((r7.1.headD .undef).freshList.length)))] []).bind fun r8 =>
  (C 11 [.p (.list true [.int .i64, .int .i64, .int .i64] ((((r4.1.headD .undef).freshList).drop 0).take ((r4.1.headD .undef).freshList.length))), .p (.list true [.int .i64, .int .i64, .int .i64] ((((r1.1.headD .undef).freshList).drop 0).take ((r1.1.headD .undef).freshList.length)))] []).bind fun r9 =>
  bif (!(r9.1.headD .undef).pv.toBool) then
    some ([.p (.bool false)], [])
  else
    bif ((r4.1.tail.headD .undef).pv.toInt != (0 : Int)) then
      some ([.p (.bool false)], [])
    else
      (C 11 [.p (.list true [.int .i64, .int .i64, .int .i64] ((((r6.1.headD .undef).freshList).drop 0).take ((r6.1.headD .undef).freshList.length))), .p (.list true [.int .i64, .int .i64, .int .i64] ((((r2.1.headD .undef).freshList).drop 0).take ((r2.1.headD .undef).freshList.length)))] []).bind fun r10 =>
      bif (!(r10.1.headD .undef).pv.toBool) then
        some ([.p (.bool false)], [])
      else
        bif ((r6.1.tail.headD .undef).pv.toInt != (0 : Int)) then
          some ([.p (.bool false)], [])
        else
          (C 27 [.p (.list false [.int .i64] [.int .i64 5, .int .i64 5])] []).bind fun r11 =>
          (C 11 [.p (.list true [.int .i64, .int .i64, .int .i64] ((((r8.1.headD .undef).freshList).drop 0).take ((r8.1.headD .undef).freshList.length))), .p (.list true [.int .i64, .int .i64, .int .i64] ((((r11.1.headD .undef).freshList).drop 0).take ((r11.1.headD .undef).freshList.length)))] []).bind fun r12 =>
          bif (!(r12.1.headD .undef).pv.toBool) then
            some ([.p (.bool false)], [])
          else
            bif ((r8.1.tail.headD .undef).pv.toInt != (0 : Int)) then
              some ([.p (.bool false)], [])
            else
              (C 27 [.p (.list false [.int .i64] [.int .i64 1, .int .i64 1, .int .i64 2, .int .i64 1, .int .i64 3, .int .i64 1])] []).bind fun r13 =>
              L tab C 9 [] [[1, 1, 1, 1, 1, 1, 1, 0, 1, 0]] (S9_1111111010 0 ((r1.1.headD .undef).freshList.length) 0 ((r2.1.headD .undef).freshList.length) 0 3 0 ((r13.1.headD .undef).freshList.length) (((r13.1.headD .undef).freshList.length : Nat) : Int) 0 ((r1.1.headD .undef).freshList) ((r2.1.headD .undef).freshList) [.int .i64 1, .int .i64 0, .int .i64 (-1)] ((r13.1.headD .undef).freshList)) := by kernel_rfl
theorem e9_1111111010 (C : CallF) (square_o : Nat) (square_l : Nat) (line_o : Nat) (line_l : Nat) (want_o : Nat) (want_l : Nat) (t77_o : Nat) (t77_l : Nat) (t78' : Int) (t79' : Int) (square_b : List PV) (line_b : List PV) (want_b : List PV) (b77_b : List PV) : R tab C 9 [] [[1, 1, 1, 1, 1, 1, 1, 0, 1, 0]] (S9_1111111010 square_o square_l line_o line_l want_o want_l t77_o t77_l t78' t79' square_b line_b want_b b77_b) =
  bif (decide (t79' < t78')) then
    bif ((decide ((0 : Int) ≤ t79')) && (decide (t79' < (t77_l : Int)))) then (C 14 [.p (.list true [.int .i64, .int .i64, .int .i64] ((square_b.drop square_o).take square_l)), .p (.agg [.int .i64 (((b77_b.getD (t77_o + t79'.toNat) .nil).cell 0).toInt), .int .i64 (((b77_b.getD (t77_o + t79'.toNat) .nil).cell 1).toInt), .int .i64 (((b77_b.getD (t77_o + t79'.toNat) .nil).cell 2).toInt)])] []).bind fun r1 =>
    bif ((decide ((0 : Int) ≤ t79')) && (decide (t79' < (want_l : Int)))) then bif ((r1.1.headD .undef).pv.toInt != ((want_b.getD (want_o + t79'.toNat) .nil).cell 0).toInt) then
      some ([.p (.bool false)], [])
    else
      bif ((r1.1.tail.headD .undef).pv.toInt != (0 : Int)) then
        some ([.p (.bool false)], [])
      else
        L tab C 9 [] [[1, 1, 1, 1, 1, 1, 1, 0, 1, 0]] (S9_1111111010 square_o square_l line_o line_l want_o want_l t77_o t77_l t78' (IntKind.i64.wrap (t79' + (1 : Int))) square_b line_b want_b b77_b) else none else none
  else
    (C 27 [.p (.list false [.int .i64] [.int .i64 2, .int .i64 2])] []).bind fun r2 =>
    bif (decide ((0 : Int) < (((r2.1.headD .undef).freshList.length : Nat) : Int))) then (C 14 [.p (.list true [.int .i64, .int .i64, .int .i64] ((line_b.drop line_o).take line_l)), .p (.agg [.int .i64 (((((r2.1.headD .undef).freshList).getD 0 .nil).cell 0).toInt), .int .i64 (((((r2.1.headD .undef).freshList).getD 0 .nil).cell 1).toInt), .int .i64 (((((r2.1.headD .undef).freshList).getD 0 .nil).cell 2).toInt)])] []).bind fun r3 =>
    (C 19 [.p (.list true [.int .i64, .int .i64, .int .i64] ((square_b.drop square_o).take square_l))] []).bind fun r4 =>
    (C 20 [.p (.list true [.int .i64, .int .i64, .int .i64] ((square_b.drop square_o).take square_l))] []).bind fun r5 =>
    (C 27 [.p (.list false [.int .i64] [.int .i64 1, .int .i64 1])] []).bind fun r6 =>
    bif (decide ((0 : Int) < (((r6.1.headD .undef).freshList.length : Nat) : Int))) then (C 21 [.p (.list true [.int .i64, .int .i64, .int .i64] ((square_b.drop square_o).take square_l)), .p (.agg [.int .i64 (((((r6.1.headD .undef).freshList).getD 0 .nil).cell 0).toInt), .int .i64 (((((r6.1.headD .undef).freshList).getD 0 .nil).cell 1).toInt), .int .i64 (((((r6.1.headD .undef).freshList).getD 0 .nil).cell 2).toInt)])] []).bind fun r7 =>
    (C 26 [.p (.list true [.int .i64, .int .i64, .int .i64] ((square_b.drop square_o).take square_l)), .p (.list true [.int .i64, .int .i64, .int .i64] ((line_b.drop line_o).take line_l))] []).bind fun r8 =>
    bif ((r3.1.headD .undef).pv.toInt == (0 : Int)) then
      bif ((r3.1.tail.headD .undef).pv.toInt == (0 : Int)) then
        bif ((r4.1.headD .undef).pv.toInt == (8 : Int)) then
          bif ((r4.1.tail.headD .undef).pv.toInt == (0 : Int)) then
            bif ((r5.1.headD .undef).pv.toInt == (0 : Int)) then
              bif ((r5.1.tail.headD .undef).pv.toInt == (2 : Int)) then
                bif ((r5.1.tail.tail.headD .undef).pv.toInt == (8 : Int)) then
                  bif ((r5.1.tail.tail.tail.headD .undef).pv.toInt == (0 : Int)) then
                    bif ((r7.1.headD .undef).pv.toInt == (0 : Int)) then
                      bif ((r7.1.tail.headD .undef).pv.toInt == (4 : Int)) then
                        bif ((r7.1.tail.tail.headD .undef).pv.toInt == (0 : Int)) then
                          (C 27 [.p (.list false [.int .i64] [.int .i64 0, .int .i64 0, .int .i64 2, .int .i64 0, .int .i64 3, .int .i64 3, .int .i64 0, .int .i64 2])] []).bind fun r9 =>
                          (C 11 [.p (.list true [.int .i64, .int .i64, .int .i64] ((((r8.1.headD .undef).freshList).drop 0).take ((r8.1.headD .undef).freshList.length))), .p (.list true [.int .i64, .int .i64, .int .i64] ((((r9.1.headD .undef).freshList).drop 0).take ((r9.1.headD .undef).freshList.length)))] []).bind fun r10 =>
                          bif (r10.1.headD .undef).pv.toBool then
                            bif ((r8.1.tail.headD .undef).pv.toInt == (0 : Int)) then
                              (C 27 [.p (.list false [.int .i64] [.int .i64 0, .int .i64 0, .int .i64 0, .int .i64 2, .int .i64 2, .int .i64 2])] []).bind fun r11 =>
                              (C 16 [.p (.list true [.int .i64, .int .i64, .int .i64] ((((r11.1.headD .undef).freshList).drop 0).take ((r11.1.headD .undef).freshList.length)))] []).bind fun r12 =>
                              some ([.p (.bool (!(r12.1.headD .undef).pv.toBool))], [])
                            else
                              some ([.p (.bool false)], [])
                          else
                            some ([.p (.bool false)], [])
                        else
                          some ([.p (.bool false)], [])
                      else
                        some ([.p (.bool false)], [])
                    else
                      some ([.p (.bool false)], [])
                  else
                    some ([.p (.bool false)], [])
                else
                  some ([.p (.bool false)], [])
              else
                some ([.p (.bool false)], [])
            else
              some ([.p (.bool false)], [])
          else
            some ([.p (.bool false)], [])
        else
          some ([.p (.bool false)], [])
      else
        some ([.p (.bool false)], [])
    else
      some ([.p (.bool false)], []) else none else none := by kernel_rfl
/- hull.Hull -/
def S10_111010 (flat_o : Nat) (flat_l : Nat) (t15' : List PV) (t16' : Int) (t17' : Int) (flat_b : List PV) : St := ⟨.undef :: .undef :: .undef :: .undef :: (.slice 4 3 flat_o flat_l) :: .undef :: .undef :: .undef :: .undef :: .undef :: .undef :: .undef :: .undef :: .undef :: .undef :: (.p (.list true [.int .i64, .int .i64, .int .i64] t15')) :: (.p (.int .i64 t16')) :: (.p (.int .i64 t17')) :: List.replicate 44 .undef, [(4, .arr true [.int .i64, .int .i64, .int .i64] flat_b)]⟩
theorem e10 (C : CallF) (l : List PV) : acallI tab C 10 [.p (.list true [.int .i64, .int .i64, .int .i64] l)] [] =
  bif (decide (((l.length : Nat) : Int) > (10000 : Int))) then
    some ([.fresh true [.int .i64, .int .i64, .int .i64] [], .p (.int .i64 2)], [])
  else
    bif ((decide ((0 : Int) ≤ ((l.length : Nat) : Int))) && ((decide (((l.length : Nat) : Int) ≤ ((l.length : Nat) : Int))) && (decide (((l.length : Nat) : Int) ≤ (2147483648 : Int))))) then L tab C 10 [] [[1, 1, 1, 0, 1, 0]] (S10_111010 0 (((l.length : Nat) : Int).toNat) l ((l.length : Nat) : Int) 0 (List.replicate (((l.length : Nat) : Int).toNat) (PV.agg [.int .i64 0, .int .i64 0, .int .i64 0]))) else none := by kernel_rfl
theorem e10_111010 (C : CallF) (flat_o : Nat) (flat_l : Nat) (t15' : List PV) (t16' : Int) (t17' : Int) (flat_b : List PV) : R tab C 10 [] [[1, 1, 1, 0, 1, 0]] (S10_111010 flat_o flat_l t15' t16' t17' flat_b) =
  bif (decide (t17' < t16')) then
    bif ((decide ((0 : Int) ≤ t17')) && (decide (t17' < ((t15'.length : Nat) : Int)))) then (C 29 [.p (.agg [.int .i64 (((t15'.getD t17'.toNat .nil).cell 0).toInt), .int .i64 (((t15'.getD t17'.toNat .nil).cell 1).toInt), .int .i64 (((t15'.getD t17'.toNat .nil).cell 2).toInt)])] []).bind fun r1 =>
    bif (!(r1.1.headD .undef).pv.toBool) then
      some ([.fresh true [.int .i64, .int .i64, .int .i64] [], .p (.int .i64 2)], [])
    else
      bif ((decide ((0 : Int) ≤ t17')) && (decide (t17' < (flat_l : Int)))) then L tab C 10 [] [[1, 1, 1, 0, 1, 0]] (S10_111010 flat_o flat_l t15' t16' (IntKind.i64.wrap (t17' + (1 : Int))) (flat_b.set (flat_o + t17'.toNat) (PV.agg [.int .i64 (((t15'.getD t17'.toNat .nil).cell 0).toInt), .int .i64 (((t15'.getD t17'.toNat .nil).cell 1).toInt), .int .i64 0]))) else none else none
  else
    bif ((flat_l : Int) == (0 : Int)) then
      some ([.fresh true [.int .i64, .int .i64, .int .i64] [], .p (.int .i64 9)], [])
    else
      (C 30 [.slice 100000 3 flat_o flat_l, .p (.fn 31 [])] [.arr true [.int .i64, .int .i64, .int .i64] flat_b]).bind fun r2 =>
      (C 32 [.slice 100000 3 flat_o flat_l] [.arr true [.int .i64, .int .i64, .int .i64] ((r2.2.headD (.box [])).xs)]).bind fun r3 =>
      bif ((((r3.1.headD .undef).sLen : Nat) : Int) == (1 : Int)) then
        some ([.fresh true [.int .i64, .int .i64, .int .i64] ((((r3.2.headD (.box [])).xs).drop ((r3.1.headD .undef).sOff)).take ((r3.1.headD .undef).sLen)), .p (.int .i64 0)], [])
      else
        (C 33 [.p (.list true [.int .i64, .int .i64, .int .i64] ((((r3.2.headD (.box [])).xs).drop ((r3.1.headD .undef).sOff)).take ((r3.1.headD .undef).sLen)))] []).bind fun r4 =>
        (C 34 [.slice 100000 3 ((r3.1.headD .undef).sOff) ((r3.1.headD .undef).sLen)] [.arr true [.int .i64, .int .i64, .int .i64] ((r3.2.headD (.box [])).xs)]).bind fun r5 =>
        (C 33 [.p (.list true [.int .i64, .int .i64, .int .i64] ((((r5.2.headD (.box [])).xs).drop ((r3.1.headD .undef).sOff)).take ((r3.1.headD .undef).sLen)))] []).bind fun r6 =>
        bif ((decide ((0 : Int) ≤ (IntKind.i64.wrap ((((r4.1.headD .undef).freshList.length : Nat) : Int) - (1 : Int))))) && ((decide ((IntKind.i64.wrap ((((r4.1.headD .undef).freshList.length : Nat) : Int) - (1 : Int))) ≤ (((r4.1.headD .undef).freshList.length : Nat) : Int))) && (decide ((((r4.1.headD .undef).freshList.length : Nat) : Int) ≤ (((r4.1.headD .undef).freshList.length : Nat) : Int))))) then bif ((decide ((0 : Int) ≤ (IntKind.i64.wrap ((((r6.1.headD .undef).freshList.length : Nat) : Int) - (1 : Int))))) && ((decide ((IntKind.i64.wrap ((((r6.1.headD .undef).freshList.length : Nat) : Int) - (1 : Int))) ≤ (((r6.1.headD .undef).freshList.length : Nat) : Int))) && (decide ((((r6.1.headD .undef).freshList.length : Nat) : Int) ≤ (((r6.1.headD .undef).freshList.length : Nat) : Int))))) then bif (decide ((((IntKind.i64.wrap ((((r4.1.headD .undef).freshList.length : Nat) : Int) - (1 : Int))) - (0 : Int)).toNat + ((IntKind.i64.wrap ((((r6.1.headD .undef).freshList.length : Nat) : Int) - (1 : Int))) - (0 : Int)).toNat) ≤ 2147483648)) then some ([.fresh true [.int .i64, .int .i64, .int .i64] (((((((r4.1.headD .undef).freshList).drop 0).take (((IntKind.i64.wrap ((((r4.1.headD .undef).freshList.length : Nat) : Int) - (1 : Int))) - (0 : Int)).toNat)) ++ ((((r6.1.headD .undef).freshList).drop 0).take (((IntKind.i64.wrap ((((r6.1.headD .undef).freshList.length : Nat) : Int) - (1 : Int))) - (0 : Int)).toNat))).drop 0).take (((IntKind.i64.wrap ((((r4.1.headD .undef).freshList.length : Nat) : Int) - (1 : Int))) - (0 : Int)).toNat + ((IntKind.i64.wrap ((((r6.1.headD .undef).freshList.length : Nat) : Int) - (1 : Int))) - (0 : Int)).toNat)), .p (.int .i64 0)], []) else none else none else none := by kernel_rfl
/- skylanternref06.Same -/
def S11_11010 (a' : List PV) (b' : List PV) (i' : Int) : St := ⟨(.p (.list true [.int .i64, .int .i64, .int .i64] a')) :: (.p (.list true [.int .i64, .int .i64, .int .i64] b')) :: .undef :: .undef :: .undef :: (.p (.int .i64 i')) :: List.replicate 20 .undef, []⟩
theorem e11 (C : CallF) (a : List PV) (b : List PV) : acallI tab C 11 [.p (.list true [.int .i64, .int .i64, .int .i64] a), .p (.list true [.int .i64, .int .i64, .int .i64] b)] [] =
  bif (((a.length : Nat) : Int) != ((b.length : Nat) : Int)) then
    some ([.p (.bool false)], [])
  else
    L tab C 11 [] [[1, 1, 0, 1, 0]] (S11_11010 a b 0) := by kernel_rfl
theorem e11_11010 (C : CallF) (a' : List PV) (b' : List PV) (i' : Int) : R tab C 11 [] [[1, 1, 0, 1, 0]] (S11_11010 a' b' i') =
  bif (decide (i' < ((a'.length : Nat) : Int))) then
    bif ((decide ((0 : Int) ≤ i')) && (decide (i' < ((a'.length : Nat) : Int)))) then bif ((decide ((0 : Int) ≤ i')) && (decide (i' < ((b'.length : Nat) : Int)))) then bif (!((((a'.getD i'.toNat .nil).cell 0).toInt == ((b'.getD i'.toNat .nil).cell 0).toInt) && ((((a'.getD i'.toNat .nil).cell 1).toInt == ((b'.getD i'.toNat .nil).cell 1).toInt) && ((((a'.getD i'.toNat .nil).cell 2).toInt == ((b'.getD i'.toNat .nil).cell 2).toInt) && true)))) then
      some ([.p (.bool false)], [])
    else
      L tab C 11 [] [[1, 1, 0, 1, 0]] (S11_11010 a' b' (IntKind.i64.wrap (i' + (1 : Int)))) else none else none
  else
    some ([.p (.bool true)], []) := by kernel_rfl
/- skylanternref06.Points -/
def S12_1010 (l' : List PV) (i' : Int) : St := ⟨(.p (.list true [.int .i64, .int .i64, .int .i64] l')) :: .undef :: .undef :: (.p (.int .i64 i')) :: List.replicate 12 .undef, []⟩
theorem e12 (C : CallF) (l : List PV) : acallI tab C 12 [.p (.list true [.int .i64, .int .i64, .int .i64] l)] [] =
  L tab C 12 [] [[1, 0, 1, 0]] (S12_1010 l 0) := by kernel_rfl
theorem e12_1010 (C : CallF) (l' : List PV) (i' : Int) : R tab C 12 [] [[1, 0, 1, 0]] (S12_1010 l' i') =
  bif (decide (i' < ((l'.length : Nat) : Int))) then
    bif ((decide ((0 : Int) ≤ i')) && (decide (i' < ((l'.length : Nat) : Int)))) then (C 17 [.p (.agg [.int .i64 (((l'.getD i'.toNat .nil).cell 0).toInt), .int .i64 (((l'.getD i'.toNat .nil).cell 1).toInt), .int .i64 (((l'.getD i'.toNat .nil).cell 2).toInt)])] []).bind fun r1 =>
    bif (!(r1.1.headD .undef).pv.toBool) then
      some ([.p (.bool false)], [])
    else
      L tab C 12 [] [[1, 0, 1, 0]] (S12_1010 l' (IntKind.i64.wrap (i' + (1 : Int)))) else none
  else
    some ([.p (.bool true)], []) := by kernel_rfl
/- skylanternref07.Hull -/
def S13_11010 (l' : List PV) (flat_o : Nat) (flat_l : Nat) (i' : Int) (flat_b : List PV) : St := ⟨(.p (.list true [.int .i64, .int .i64, .int .i64] l')) :: .undef :: .undef :: (.slice 3 3 flat_o flat_l) :: (.p (.int .i64 i')) :: List.replicate 138 .undef, [(3, .arr true [.int .i64, .int .i64, .int .i64] flat_b)]⟩
def S13_11010_1001100 (l' : List PV) (flat_o : Nat) (flat_l : Nat) (i' : Int) (at_' : Int) (flat_b : List PV) (p_b0 : Int) (p_b1 : Int) (p_b2 : Int) : St := ⟨(.p (.list true [.int .i64, .int .i64, .int .i64] l')) :: .undef :: .undef :: (.slice 3 3 flat_o flat_l) :: (.p (.int .i64 i')) :: (.ptr 5 0 0) :: (.p (.int .i64 at_')) :: List.replicate 136 .undef, [(3, .arr true [.int .i64, .int .i64, .int .i64] flat_b), (5, .box [.p (.int .i64 p_b0), .p (.int .i64 p_b1), .p (.int .i64 p_b2)])]⟩
def S13_1111010 (flat_o : Nat) (flat_l : Nat) (corners_o : Nat) (corners_l : Nat) (i' : Int) (flat_b : List PV) (corners_b : List PV) : St := ⟨.undef :: .undef :: .undef :: (.slice 3 3 flat_o flat_l) :: .undef :: .undef :: .undef :: .undef :: (.slice 8 3 corners_o corners_l) :: (.p (.int .i64 i')) :: List.replicate 133 .undef, [(3, .arr true [.int .i64, .int .i64, .int .i64] flat_b), (8, .arr true [.int .i64, .int .i64, .int .i64] corners_b)]⟩
def S13_11111100 (corners_o : Nat) (corners_l : Nat) (out_o : Nat) (out_l : Nat) (corners_b : List PV) (out_b : List PV) : St := ⟨.undef :: .undef :: .undef :: .undef :: .undef :: .undef :: .undef :: .undef :: (.slice 8 3 corners_o corners_l) :: .undef :: (.slice 10 3 out_o out_l) :: List.replicate 132 .undef, [(8, .arr true [.int .i64, .int .i64, .int .i64] corners_b), (10, .arr true [.int .i64, .int .i64, .int .i64] out_b)]⟩
def S13_11111100_10110 (corners_o : Nat) (corners_l : Nat) (out_o : Nat) (out_l : Nat) (i' : Int) (corners_b : List PV) (out_b : List PV) (a_b0 : Int) (a_b1 : Int) (a_b2 : Int) : St := ⟨.undef :: .undef :: .undef :: .undef :: .undef :: .undef :: .undef :: .undef :: (.slice 8 3 corners_o corners_l) :: .undef :: (.slice 10 3 out_o out_l) :: (.ptr 11 0 0) :: (.p (.int .i64 i')) :: List.replicate 130 .undef, [(8, .arr true [.int .i64, .int .i64, .int .i64] corners_b), (10, .arr true [.int .i64, .int .i64, .int .i64] out_b), (11, .box [.p (.int .i64 a_b0), .p (.int .i64 a_b1), .p (.int .i64 a_b2)])]⟩
def S13_11111100_10110_10011010 (corners_o : Nat) (corners_l : Nat) (out_o : Nat) (out_l : Nat) (i' : Int) (fine' : Bool) (k' : Int) (corners_b : List PV) (out_b : List PV) (a_b0 : Int) (a_b1 : Int) (a_b2 : Int) (b_b0 : Int) (b_b1 : Int) (b_b2 : Int) : St := ⟨.undef :: .undef :: .undef :: .undef :: .undef :: .undef :: .undef :: .undef :: (.slice 8 3 corners_o corners_l) :: .undef :: (.slice 10 3 out_o out_l) :: (.ptr 11 0 0) :: (.p (.int .i64 i')) :: (.ptr 13 0 0) :: (.p (.bool fine')) :: (.p (.int .i64 k')) :: List.replicate 127 .undef, [(8, .arr true [.int .i64, .int .i64, .int .i64] corners_b), (10, .arr true [.int .i64, .int .i64, .int .i64] out_b), (11, .box [.p (.int .i64 a_b0), .p (.int .i64 a_b1), .p (.int .i64 a_b2)]), (13, .box [.p (.int .i64 b_b0), .p (.int .i64 b_b1), .p (.int .i64 b_b2)])]⟩
theorem e13 (C : CallF) (l : List PV) : acallI tab C 13 [.p (.list true [.int .i64, .int .i64, .int .i64] l)] [] =
  L tab C 13 [] [[1, 1, 0, 1, 0]] (S13_11010 l 0 0 0 []) := by kernel_rfl
theorem e13_11010 (C : CallF) (l' : List PV) (flat_o : Nat) (flat_l : Nat) (i' : Int) (flat_b : List PV) : R tab C 13 [] [[1, 1, 0, 1, 0]] (S13_11010 l' flat_o flat_l i' flat_b) =
  bif (decide (i' < ((l'.length : Nat) : Int))) then
    bif ((decide ((0 : Int) ≤ i')) && (decide (i' < ((l'.length : Nat) : Int)))) then bif ((decide ((0 : Int) ≤ i')) && (decide (i' < ((l'.length : Nat) : Int)))) then L tab C 13 [] [[1, 1, 0, 1, 0], [1, 0, 0, 1, 1, 0, 0]] (S13_11010_1001100 l' flat_o flat_l i' 0 flat_b (((l'.getD i'.toNat .nil).cell 0).toInt) (((l'.getD i'.toNat .nil).cell 1).toInt) 0) else none else none
  else
    L tab C 13 [] [[1, 1, 1, 1, 0, 1, 0]] (S13_1111010 flat_o flat_l 0 0 0 flat_b []) := by kernel_rfl
theorem e13_11010_1001100 (C : CallF) (l' : List PV) (flat_o : Nat) (flat_l : Nat) (i' : Int) (at_' : Int) (flat_b : List PV) (p_b0 : Int) (p_b1 : Int) (p_b2 : Int) : R tab C 13 [] [[1, 1, 0, 1, 0], [1, 0, 0, 1, 1, 0, 0]] (S13_11010_1001100 l' flat_o flat_l i' at_' flat_b p_b0 p_b1 p_b2) =
  bif (decide (at_' < (flat_l : Int))) then
    bif ((decide ((0 : Int) ≤ at_')) && (decide (at_' < (flat_l : Int)))) then (C 35 [.p (.agg [.int .i64 (((flat_b.getD (flat_o + at_'.toNat) .nil).cell 0).toInt), .int .i64 (((flat_b.getD (flat_o + at_'.toNat) .nil).cell 1).toInt), .int .i64 (((flat_b.getD (flat_o + at_'.toNat) .nil).cell 2).toInt)]), .p (.agg [.int .i64 p_b0, .int .i64 p_b1, .int .i64 p_b2])] []).bind fun r1 =>
    bif (decide ((r1.1.headD .undef).pv.toInt < (0 : Int))) then
      L tab C 13 [] [[1, 1, 0, 1, 0], [1, 0, 0, 1, 1, 0, 0]] (S13_11010_1001100 l' flat_o flat_l i' (IntKind.i64.wrap (at_' + (1 : Int))) flat_b p_b0 p_b1 p_b2)
    else
      bif (decide (at_' < (flat_l : Int))) then
        bif ((decide ((0 : Int) ≤ at_')) && (decide (at_' < (flat_l : Int)))) then bif ((((flat_b.getD (flat_o + at_'.toNat) .nil).cell 0).toInt == p_b0) && ((((flat_b.getD (flat_o + at_'.toNat) .nil).cell 1).toInt == p_b1) && ((((flat_b.getD (flat_o + at_'.toNat) .nil).cell 2).toInt == p_b2) && true))) then
          L tab C 13 [] [[1, 1, 0, 1, 0]] (S13_11010 l' flat_o flat_l (IntKind.i64.wrap (i' + (1 : Int))) flat_b)
        else
          bif ((decide ((0 : Int) ≤ at_')) && ((decide (at_' ≤ (flat_l : Int))) && ((decide ((flat_l : Int) ≤ (flat_l : Int))) && (decide ((flat_l : Int) ≤ (flat_l : Int)))))) then bif (decide ((1 + ((flat_l : Int) - at_').toNat) ≤ 2147483648)) then bif ((decide ((0 : Int) ≤ at_')) && ((decide (at_' ≤ (flat_l : Int))) && (decide ((flat_l : Int) ≤ (flat_l : Int))))) then bif (decide ((at_' - (0 : Int)).toNat ≤ 2147483648)) then bif (decide (((at_' - (0 : Int)).toNat + (1 + ((flat_l : Int) - at_').toNat)) ≤ 2147483648)) then L tab C 13 [] [[1, 1, 0, 1, 0]] (S13_11010 l' 0 ((at_' - (0 : Int)).toNat + (1 + ((flat_l : Int) - at_').toNat)) (IntKind.i64.wrap (i' + (1 : Int))) (((((flat_b.drop (flat_o + 0)).take ((at_' - (0 : Int)).toNat)).drop 0).take ((at_' - (0 : Int)).toNat)) ++ (((([.agg [.int .i64 p_b0, .int .i64 p_b1, .int .i64 p_b2]] : List PV) ++ ((flat_b.drop (flat_o + at_'.toNat)).take (((flat_l : Int) - at_').toNat))).drop 0).take (1 + ((flat_l : Int) - at_').toNat)))) else none else none else none else none else none else none
      else
        bif ((decide ((0 : Int) ≤ at_')) && ((decide (at_' ≤ (flat_l : Int))) && ((decide ((flat_l : Int) ≤ (flat_l : Int))) && (decide ((flat_l : Int) ≤ (flat_l : Int)))))) then bif (decide ((1 + ((flat_l : Int) - at_').toNat) ≤ 2147483648)) then bif ((decide ((0 : Int) ≤ at_')) && ((decide (at_' ≤ (flat_l : Int))) && (decide ((flat_l : Int) ≤ (flat_l : Int))))) then bif (decide ((at_' - (0 : Int)).toNat ≤ 2147483648)) then bif (decide (((at_' - (0 : Int)).toNat + (1 + ((flat_l : Int) - at_').toNat)) ≤ 2147483648)) then L tab C 13 [] [[1, 1, 0, 1, 0]] (S13_11010 l' 0 ((at_' - (0 : Int)).toNat + (1 + ((flat_l : Int) - at_').toNat)) (IntKind.i64.wrap (i' + (1 : Int))) (((((flat_b.drop (flat_o + 0)).take ((at_' - (0 : Int)).toNat)).drop 0).take ((at_' - (0 : Int)).toNat)) ++ (((([.agg [.int .i64 p_b0, .int .i64 p_b1, .int .i64 p_b2]] : List PV) ++ ((flat_b.drop (flat_o + at_'.toNat)).take (((flat_l : Int) - at_').toNat))).drop 0).take (1 + ((flat_l : Int) - at_').toNat)))) else none else none else none else none else none else none
  else
    bif (decide (at_' < (flat_l : Int))) then
      bif ((decide ((0 : Int) ≤ at_')) && (decide (at_' < (flat_l : Int)))) then bif ((((flat_b.getD (flat_o + at_'.toNat) .nil).cell 0).toInt == p_b0) && ((((flat_b.getD (flat_o + at_'.toNat) .nil).cell 1).toInt == p_b1) && ((((flat_b.getD (flat_o + at_'.toNat) .nil).cell 2).toInt == p_b2) && true))) then
        L tab C 13 [] [[1, 1, 0, 1, 0]] (S13_11010 l' flat_o flat_l (IntKind.i64.wrap (i' + (1 : Int))) flat_b)
      else
        bif ((decide ((0 : Int) ≤ at_')) && ((decide (at_' ≤ (flat_l : Int))) && ((decide ((flat_l : Int) ≤ (flat_l : Int))) && (decide ((flat_l : Int) ≤ (flat_l : Int)))))) then bif (decide ((1 + ((flat_l : Int) - at_').toNat) ≤ 2147483648)) then bif ((decide ((0 : Int) ≤ at_')) && ((decide (at_' ≤ (flat_l : Int))) && (decide ((flat_l : Int) ≤ (flat_l : Int))))) then bif (decide ((at_' - (0 : Int)).toNat ≤ 2147483648)) then bif (decide (((at_' - (0 : Int)).toNat + (1 + ((flat_l : Int) - at_').toNat)) ≤ 2147483648)) then L tab C 13 [] [[1, 1, 0, 1, 0]] (S13_11010 l' 0 ((at_' - (0 : Int)).toNat + (1 + ((flat_l : Int) - at_').toNat)) (IntKind.i64.wrap (i' + (1 : Int))) (((((flat_b.drop (flat_o + 0)).take ((at_' - (0 : Int)).toNat)).drop 0).take ((at_' - (0 : Int)).toNat)) ++ (((([.agg [.int .i64 p_b0, .int .i64 p_b1, .int .i64 p_b2]] : List PV) ++ ((flat_b.drop (flat_o + at_'.toNat)).take (((flat_l : Int) - at_').toNat))).drop 0).take (1 + ((flat_l : Int) - at_').toNat)))) else none else none else none else none else none else none
    else
      bif ((decide ((0 : Int) ≤ at_')) && ((decide (at_' ≤ (flat_l : Int))) && ((decide ((flat_l : Int) ≤ (flat_l : Int))) && (decide ((flat_l : Int) ≤ (flat_l : Int)))))) then bif (decide ((1 + ((flat_l : Int) - at_').toNat) ≤ 2147483648)) then bif ((decide ((0 : Int) ≤ at_')) && ((decide (at_' ≤ (flat_l : Int))) && (decide ((flat_l : Int) ≤ (flat_l : Int))))) then bif (decide ((at_' - (0 : Int)).toNat ≤ 2147483648)) then bif (decide (((at_' - (0 : Int)).toNat + (1 + ((flat_l : Int) - at_').toNat)) ≤ 2147483648)) then L tab C 13 [] [[1, 1, 0, 1, 0]] (S13_11010 l' 0 ((at_' - (0 : Int)).toNat + (1 + ((flat_l : Int) - at_').toNat)) (IntKind.i64.wrap (i' + (1 : Int))) (((((flat_b.drop (flat_o + 0)).take ((at_' - (0 : Int)).toNat)).drop 0).take ((at_' - (0 : Int)).toNat)) ++ (((([.agg [.int .i64 p_b0, .int .i64 p_b1, .int .i64 p_b2]] : List PV) ++ ((flat_b.drop (flat_o + at_'.toNat)).take (((flat_l : Int) - at_').toNat))).drop 0).take (1 + ((flat_l : Int) - at_').toNat)))) else none else none else none else none else none := by kernel_rfl
theorem e13_1111010 (C : CallF) (flat_o : Nat) (flat_l : Nat) (corners_o : Nat) (corners_l : Nat) (i' : Int) (flat_b : List PV) (corners_b : List PV) : R tab C 13 [] [[1, 1, 1, 1, 0, 1, 0]] (S13_1111010 flat_o flat_l corners_o corners_l i' flat_b corners_b) =
  bif (decide (i' < (flat_l : Int))) then
    bif ((decide ((0 : Int) ≤ i')) && (decide (i' < (flat_l : Int)))) then (C 36 [.p (.list true [.int .i64, .int .i64, .int .i64] ((flat_b.drop flat_o).take flat_l)), .p (.agg [.int .i64 (((flat_b.getD (flat_o + i'.toNat) .nil).cell 0).toInt), .int .i64 (((flat_b.getD (flat_o + i'.toNat) .nil).cell 1).toInt), .int .i64 (((flat_b.getD (flat_o + i'.toNat) .nil).cell 2).toInt)])] []).bind fun r1 =>
    bif (!(r1.1.headD .undef).pv.toBool) then
      bif ((decide ((0 : Int) ≤ i')) && (decide (i' < (flat_l : Int)))) then bif (decide ((corners_l + 1) ≤ 2147483648)) then L tab C 13 [] [[1, 1, 1, 1, 0, 1, 0]] (S13_1111010 flat_o flat_l 0 (corners_l + 1) (IntKind.i64.wrap (i' + (1 : Int))) flat_b (((corners_b.drop corners_o).take corners_l) ++ ([.agg [.int .i64 (((flat_b.getD (flat_o + i'.toNat) .nil).cell 0).toInt), .int .i64 (((flat_b.getD (flat_o + i'.toNat) .nil).cell 1).toInt), .int .i64 (((flat_b.getD (flat_o + i'.toNat) .nil).cell 2).toInt)]] : List PV))) else none else none
    else
      L tab C 13 [] [[1, 1, 1, 1, 0, 1, 0]] (S13_1111010 flat_o flat_l corners_o corners_l (IntKind.i64.wrap (i' + (1 : Int))) flat_b corners_b) else none
  else
    bif (decide ((0 : Int) < (corners_l : Int))) then L tab C 13 [] [[1, 1, 1, 1, 1, 1, 0, 0]] (S13_11111100 corners_o corners_l 0 1 corners_b [.agg [.int .i64 (((corners_b.getD (corners_o + 0) .nil).cell 0).toInt), .int .i64 (((corners_b.getD (corners_o + 0) .nil).cell 1).toInt), .int .i64 (((corners_b.getD (corners_o + 0) .nil).cell 2).toInt)]]) else none := by kernel_rfl
theorem e13_11111100 (C : CallF) (corners_o : Nat) (corners_l : Nat) (out_o : Nat) (out_l : Nat) (corners_b : List PV) (out_b : List PV) : R tab C 13 [] [[1, 1, 1, 1, 1, 1, 0, 0]] (S13_11111100 corners_o corners_l out_o out_l corners_b out_b) =
  bif (decide ((out_l : Int) < (corners_l : Int))) then
    bif ((decide ((0 : Int) ≤ (IntKind.i64.wrap ((out_l : Int) - (1 : Int))))) && (decide ((IntKind.i64.wrap ((out_l : Int) - (1 : Int))) < (out_l : Int)))) then L tab C 13 [] [[1, 1, 1, 1, 1, 1, 0, 0], [1, 0, 1, 1, 0]] (S13_11111100_10110 corners_o corners_l out_o out_l 0 corners_b out_b (((out_b.getD (out_o + (IntKind.i64.wrap ((out_l : Int) - (1 : Int))).toNat) .nil).cell 0).toInt) (((out_b.getD (out_o + (IntKind.i64.wrap ((out_l : Int) - (1 : Int))).toNat) .nil).cell 1).toInt) (((out_b.getD (out_o + (IntKind.i64.wrap ((out_l : Int) - (1 : Int))).toNat) .nil).cell 2).toInt)) else none
  else
    some ([.fresh true [.int .i64, .int .i64, .int .i64] ((out_b.drop out_o).take out_l)], []) := by kernel_rfl
theorem e13_11111100_10110 (C : CallF) (corners_o : Nat) (corners_l : Nat) (out_o : Nat) (out_l : Nat) (i' : Int) (corners_b : List PV) (out_b : List PV) (a_b0 : Int) (a_b1 : Int) (a_b2 : Int) : R tab C 13 [] [[1, 1, 1, 1, 1, 1, 0, 0], [1, 0, 1, 1, 0]] (S13_11111100_10110 corners_o corners_l out_o out_l i' corners_b out_b a_b0 a_b1 a_b2) =
  bif (decide (i' < (corners_l : Int))) then
    bif ((decide ((0 : Int) ≤ i')) && (decide (i' < (corners_l : Int)))) then L tab C 13 [] [[1, 1, 1, 1, 1, 1, 0, 0], [1, 0, 1, 1, 0], [1, 0, 0, 1, 1, 0, 1, 0]] (S13_11111100_10110_10011010 corners_o corners_l out_o out_l i' (!((a_b0 == ((corners_b.getD (corners_o + i'.toNat) .nil).cell 0).toInt) && ((a_b1 == ((corners_b.getD (corners_o + i'.toNat) .nil).cell 1).toInt) && ((a_b2 == ((corners_b.getD (corners_o + i'.toNat) .nil).cell 2).toInt) && true)))) 0 corners_b out_b a_b0 a_b1 a_b2 (((corners_b.getD (corners_o + i'.toNat) .nil).cell 0).toInt) (((corners_b.getD (corners_o + i'.toNat) .nil).cell 1).toInt) (((corners_b.getD (corners_o + i'.toNat) .nil).cell 2).toInt)) else none
  else
    L tab C 13 [] [[1, 1, 1, 1, 1, 1, 0, 0]] (S13_11111100 corners_o corners_l out_o out_l corners_b out_b) := by kernel_rfl
theorem e13_11111100_10110_10011010 (C : CallF) (corners_o : Nat) (corners_l : Nat) (out_o : Nat) (out_l : Nat) (i' : Int) (fine' : Bool) (k' : Int) (corners_b : List PV) (out_b : List PV) (a_b0 : Int) (a_b1 : Int) (a_b2 : Int) (b_b0 : Int) (b_b1 : Int) (b_b2 : Int) : R tab C 13 [] [[1, 1, 1, 1, 1, 1, 0, 0], [1, 0, 1, 1, 0], [1, 0, 0, 1, 1, 0, 1, 0]] (S13_11111100_10110_10011010 corners_o corners_l out_o out_l i' fine' k' corners_b out_b a_b0 a_b1 a_b2 b_b0 b_b1 b_b2) =
  bif (decide (k' < (corners_l : Int))) then
    bif fine' then
      bif ((decide ((0 : Int) ≤ k')) && (decide (k' < (corners_l : Int)))) then (C 37 [.p (.agg [.int .i64 a_b0, .int .i64 a_b1, .int .i64 a_b2]), .p (.agg [.int .i64 b_b0, .int .i64 b_b1, .int .i64 b_b2]), .p (.agg [.int .i64 (((corners_b.getD (corners_o + k'.toNat) .nil).cell 0).toInt), .int .i64 (((corners_b.getD (corners_o + k'.toNat) .nil).cell 1).toInt), .int .i64 (((corners_b.getD (corners_o + k'.toNat) .nil).cell 2).toInt)])] []).bind fun r1 =>
      L tab C 13 [] [[1, 1, 1, 1, 1, 1, 0, 0], [1, 0, 1, 1, 0], [1, 0, 0, 1, 1, 0, 1, 0]] (S13_11111100_10110_10011010 corners_o corners_l out_o out_l i' (decide ((r1.1.headD .undef).pv.toInt ≥ (0 : Int))) (IntKind.i64.wrap (k' + (1 : Int))) corners_b out_b a_b0 a_b1 a_b2 b_b0 b_b1 b_b2) else none
    else
      L tab C 13 [] [[1, 1, 1, 1, 1, 1, 0, 0], [1, 0, 1, 1, 0], [1, 0, 0, 1, 1, 0, 1, 0]] (S13_11111100_10110_10011010 corners_o corners_l out_o out_l i' false (IntKind.i64.wrap (k' + (1 : Int))) corners_b out_b a_b0 a_b1 a_b2 b_b0 b_b1 b_b2)
  else
    bif fine' then
      bif (decide ((out_l + 1) ≤ 2147483648)) then L tab C 13 [] [[1, 1, 1, 1, 1, 1, 0, 0]] (S13_11111100 corners_o corners_l 0 (out_l + 1) corners_b (((out_b.drop out_o).take out_l) ++ ([.agg [.int .i64 b_b0, .int .i64 b_b1, .int .i64 b_b2]] : List PV))) else none
    else
      L tab C 13 [] [[1, 1, 1, 1, 1, 1, 0, 0], [1, 0, 1, 1, 0]] (S13_11111100_10110 corners_o corners_l out_o out_l (IntKind.i64.wrap (i' + (1 : Int))) corners_b out_b a_b0 a_b1 a_b2) := by kernel_rfl
/- hull.Side -/
def S14_1111010 (h' : List PV) (least' : Int) (t70' : Int) (t71' : Int) (p_b0 : Int) (p_b1 : Int) (p_b2 : Int) : St := ⟨(.p (.list true [.int .i64, .int .i64, .int .i64] h')) :: .undef :: .undef :: (.ptr 3 0 0) :: .undef :: .undef :: .undef :: .undef :: (.p (.int .i64 least')) :: .undef :: .undef :: .undef :: .undef :: .undef :: .undef :: .undef :: .undef :: .undef :: .undef :: .undef :: .undef :: .undef :: .undef :: .undef :: .undef :: .undef :: .undef :: .undef :: .undef :: .undef :: .undef :: .undef :: .undef :: .undef :: .undef :: .undef :: .undef :: .undef :: .undef :: .undef :: .undef :: .undef :: .undef :: .undef :: .undef :: .undef :: .undef :: .undef :: .undef :: .undef :: .undef :: .undef :: .undef :: .undef :: .undef :: .undef :: .undef :: .undef :: .undef :: .undef :: .undef :: .undef :: .undef :: .undef :: .undef :: .undef :: .undef :: .undef :: .undef :: .undef :: (.p (.int .i64 t70')) :: (.p (.int .i64 t71')) :: List.replicate 18 .undef, [(3, .box [.p (.int .i64 p_b0), .p (.int .i64 p_b1), .p (.int .i64 p_b2)])]⟩
theorem e14 (C : CallF) (h : List PV) (p_0 : Int) (p_1 : Int) (p_2 : Int) : acallI tab C 14 [.p (.list true [.int .i64, .int .i64, .int .i64] h), .p (.agg [.int .i64 p_0, .int .i64 p_1, .int .i64 p_2])] [] =
  (C 16 [.p (.list true [.int .i64, .int .i64, .int .i64] h)] []).bind fun r1 =>
  bif (!(r1.1.headD .undef).pv.toBool) then
    some ([.p (.int .i64 0), .p (.int .i64 2)], [])
  else
    (C 29 [.p (.agg [.int .i64 p_0, .int .i64 p_1, .int .i64 p_2])] []).bind fun r2 =>
    bif (!(r2.1.headD .undef).pv.toBool) then
      some ([.p (.int .i64 0), .p (.int .i64 2)], [])
    else
      bif (decide (((h.length : Nat) : Int) ≤ (2 : Int))) then
        bif (decide ((0 : Int) < ((h.length : Nat) : Int))) then bif ((decide ((0 : Int) ≤ (IntKind.i64.wrap (((h.length : Nat) : Int) - (1 : Int))))) && (decide ((IntKind.i64.wrap (((h.length : Nat) : Int) - (1 : Int))) < ((h.length : Nat) : Int)))) then (C 38 [.p (.agg [.int .i64 (((h.getD 0 .nil).cell 0).toInt), .int .i64 (((h.getD 0 .nil).cell 1).toInt), .int .i64 (((h.getD 0 .nil).cell 2).toInt)]), .p (.agg [.int .i64 (((h.getD ((IntKind.i64.wrap (((h.length : Nat) : Int) - (1 : Int))).toNat) .nil).cell 0).toInt), .int .i64 (((h.getD ((IntKind.i64.wrap (((h.length : Nat) : Int) - (1 : Int))).toNat) .nil).cell 1).toInt), .int .i64 (((h.getD ((IntKind.i64.wrap (((h.length : Nat) : Int) - (1 : Int))).toNat) .nil).cell 2).toInt)]), .p (.agg [.int .i64 p_0, .int .i64 p_1, .int .i64 p_2])] []).bind fun r3 =>
        bif ((r3.1.headD .undef).pv.toInt != (0 : Int)) then
          some ([.p (.int .i64 (-1)), .p (.int .i64 0)], [])
        else
          bif (decide (p_0 < ((h.getD 0 .nil).cell 0).toInt)) then
            some ([.p (.int .i64 (-1)), .p (.int .i64 0)], [])
          else
            bif (decide (p_0 > ((h.getD ((IntKind.i64.wrap (((h.length : Nat) : Int) - (1 : Int))).toNat) .nil).cell 0).toInt)) then
              some ([.p (.int .i64 (-1)), .p (.int .i64 0)], [])
            else
              bif (decide (p_1 < (goMin (((h.getD 0 .nil).cell 1).toInt) (((h.getD ((IntKind.i64.wrap (((h.length : Nat) : Int) - (1 : Int))).toNat) .nil).cell 1).toInt)))) then
                some ([.p (.int .i64 (-1)), .p (.int .i64 0)], [])
              else
                bif (decide (p_1 > (goMax (((h.getD 0 .nil).cell 1).toInt) (((h.getD ((IntKind.i64.wrap (((h.length : Nat) : Int) - (1 : Int))).toNat) .nil).cell 1).toInt)))) then
                  some ([.p (.int .i64 (-1)), .p (.int .i64 0)], [])
                else
                  some ([.p (.int .i64 0), .p (.int .i64 0)], []) else none else none
      else
        L tab C 14 [] [[1, 1, 1, 1, 0, 1, 0]] (S14_1111010 h 1 ((h.length : Nat) : Int) 0 p_0 p_1 p_2) := by kernel_rfl
theorem e14_1111010 (C : CallF) (h' : List PV) (least' : Int) (t70' : Int) (t71' : Int) (p_b0 : Int) (p_b1 : Int) (p_b2 : Int) : R tab C 14 [] [[1, 1, 1, 1, 0, 1, 0]] (S14_1111010 h' least' t70' t71' p_b0 p_b1 p_b2) =
  bif (decide (t71' < t70')) then
    bif ((decide ((0 : Int) ≤ t71')) && (decide (t71' < ((h'.length : Nat) : Int)))) then (C 39 [.p (.list true [.int .i64, .int .i64, .int .i64] h'), .p (.int .i64 t71')] []).bind fun r1 =>
    bif ((decide ((0 : Int) ≤ (r1.1.headD .undef).pv.toInt)) && (decide ((r1.1.headD .undef).pv.toInt < ((h'.length : Nat) : Int)))) then (C 38 [.p (.agg [.int .i64 (((h'.getD t71'.toNat .nil).cell 0).toInt), .int .i64 (((h'.getD t71'.toNat .nil).cell 1).toInt), .int .i64 (((h'.getD t71'.toNat .nil).cell 2).toInt)]), .p (.agg [.int .i64 (((h'.getD ((r1.1.headD .undef).pv.toInt.toNat) .nil).cell 0).toInt), .int .i64 (((h'.getD ((r1.1.headD .undef).pv.toInt.toNat) .nil).cell 1).toInt), .int .i64 (((h'.getD ((r1.1.headD .undef).pv.toInt.toNat) .nil).cell 2).toInt)]), .p (.agg [.int .i64 p_b0, .int .i64 p_b1, .int .i64 p_b2])] []).bind fun r2 =>
    L tab C 14 [] [[1, 1, 1, 1, 0, 1, 0]] (S14_1111010 h' (goMin least' ((r2.1.headD .undef).pv.toInt)) t70' (IntKind.i64.wrap (t71' + (1 : Int))) p_b0 p_b1 p_b2) else none else none
  else
    some ([.p (.int .i64 least'), .p (.int .i64 0)], []) := by kernel_rfl
/- skylanternref07.Valid -/
theorem e15 (C : CallF) (h : List PV) : acallI tab C 15 [.p (.list true [.int .i64, .int .i64, .int .i64] h)] [] =
  bif (decide (((h.length : Nat) : Int) > (0 : Int))) then
    bif (decide (((h.length : Nat) : Int) ≤ (10000 : Int))) then
      (C 12 [.p (.list true [.int .i64, .int .i64, .int .i64] h)] []).bind fun r1 =>
      bif (r1.1.headD .undef).pv.toBool then
        (C 13 [.p (.list true [.int .i64, .int .i64, .int .i64] h)] []).bind fun r2 =>
        (C 11 [.p (.list true [.int .i64, .int .i64, .int .i64] ((((r2.1.headD .undef).freshList).drop 0).take ((r2.1.headD .undef).freshList.length))), .p (.list true [.int .i64, .int .i64, .int .i64] h)] []).bind fun r3 =>
        some ([.p (.bool ((r3.1.headD .undef).pv.toBool))], [])
      else
        some ([.p (.bool false)], [])
    else
      some ([.p (.bool false)], [])
  else
    some ([.p (.bool false)], []) := by kernel_rfl
/- hull.Valid -/
theorem e16 (C : CallF) (h : List PV) : acallI tab C 16 [.p (.list true [.int .i64, .int .i64, .int .i64] h)] [] =
  (C 10 [.p (.list true [.int .i64, .int .i64, .int .i64] h)] []).bind fun r1 =>
  bif ((r1.1.tail.headD .undef).pv.toInt == (0 : Int)) then
    (C 40 [.p (.list true [.int .i64, .int .i64, .int .i64] ((((r1.1.headD .undef).freshList).drop 0).take ((r1.1.headD .undef).freshList.length))), .p (.list true [.int .i64, .int .i64, .int .i64] h)] []).bind fun r2 =>
    some ([.p (.bool ((r2.1.headD .undef).pv.toBool))], [])
  else
    some ([.p (.bool false)], []) := by kernel_rfl
/- skylanternref06.Point -/
theorem e17 (C : CallF) (v_0 : Int) (v_1 : Int) (v_2 : Int) : acallI tab C 17 [.p (.agg [.int .i64 v_0, .int .i64 v_1, .int .i64 v_2])] [] =
  (C 41 [.p (.agg [.int .i64 v_0, .int .i64 v_1, .int .i64 v_2]), .p (.int .i64 1048576)] []).bind fun r1 =>
  some ([.p (.bool ((r1.1.headD .undef).pv.toBool))], []) := by kernel_rfl
/- skylanternref07.Side -/
def S18_11010 (h' : List PV) (inside' : Bool) (i' : Int) (p_b0 : Int) (p_b1 : Int) (p_b2 : Int) : St := ⟨(.p (.list true [.int .i64, .int .i64, .int .i64] h')) :: .undef :: .undef :: (.ptr 3 0 0) :: .undef :: (.p (.bool inside')) :: (.p (.int .i64 i')) :: List.replicate 37 .undef, [(3, .box [.p (.int .i64 p_b0), .p (.int .i64 p_b1), .p (.int .i64 p_b2)])]⟩
theorem e18 (C : CallF) (h : List PV) (p_0 : Int) (p_1 : Int) (p_2 : Int) : acallI tab C 18 [.p (.list true [.int .i64, .int .i64, .int .i64] h), .p (.agg [.int .i64 p_0, .int .i64 p_1, .int .i64 p_2])] [] =
  L tab C 18 [] [[1, 1, 0, 1, 0]] (S18_11010 h (decide (((h.length : Nat) : Int) > (2 : Int))) 0 p_0 p_1 p_2) := by kernel_rfl
theorem e18_11010 (C : CallF) (h' : List PV) (inside' : Bool) (i' : Int) (p_b0 : Int) (p_b1 : Int) (p_b2 : Int) : R tab C 18 [] [[1, 1, 0, 1, 0]] (S18_11010 h' inside' i' p_b0 p_b1 p_b2) =
  bif (decide (i' < ((h'.length : Nat) : Int))) then
    bif (!(decide (((h'.length : Nat) : Int) = (0 : Int)))) then bif ((decide ((0 : Int) ≤ ((IntKind.i64.wrap (i' + (1 : Int))).tmod ((h'.length : Nat) : Int)))) && (decide (((IntKind.i64.wrap (i' + (1 : Int))).tmod ((h'.length : Nat) : Int)) < ((h'.length : Nat) : Int)))) then bif ((decide ((0 : Int) ≤ i')) && (decide (i' < ((h'.length : Nat) : Int)))) then (C 42 [.p (.agg [.int .i64 (((h'.getD i'.toNat .nil).cell 0).toInt), .int .i64 (((h'.getD i'.toNat .nil).cell 1).toInt), .int .i64 (((h'.getD i'.toNat .nil).cell 2).toInt)]), .p (.agg [.int .i64 (((h'.getD (((IntKind.i64.wrap (i' + (1 : Int))).tmod ((h'.length : Nat) : Int)).toNat) .nil).cell 0).toInt), .int .i64 (((h'.getD (((IntKind.i64.wrap (i' + (1 : Int))).tmod ((h'.length : Nat) : Int)).toNat) .nil).cell 1).toInt), .int .i64 (((h'.getD (((IntKind.i64.wrap (i' + (1 : Int))).tmod ((h'.length : Nat) : Int)).toNat) .nil).cell 2).toInt)]), .p (.agg [.int .i64 p_b0, .int .i64 p_b1, .int .i64 p_b2])] []).bind fun r1 =>
    bif (r1.1.headD .undef).pv.toBool then
      some ([.p (.int .i64 0)], [])
    else
      bif inside' then
        bif ((decide ((0 : Int) ≤ i')) && (decide (i' < ((h'.length : Nat) : Int)))) then (C 37 [.p (.agg [.int .i64 (((h'.getD i'.toNat .nil).cell 0).toInt), .int .i64 (((h'.getD i'.toNat .nil).cell 1).toInt), .int .i64 (((h'.getD i'.toNat .nil).cell 2).toInt)]), .p (.agg [.int .i64 (((h'.getD (((IntKind.i64.wrap (i' + (1 : Int))).tmod ((h'.length : Nat) : Int)).toNat) .nil).cell 0).toInt), .int .i64 (((h'.getD (((IntKind.i64.wrap (i' + (1 : Int))).tmod ((h'.length : Nat) : Int)).toNat) .nil).cell 1).toInt), .int .i64 (((h'.getD (((IntKind.i64.wrap (i' + (1 : Int))).tmod ((h'.length : Nat) : Int)).toNat) .nil).cell 2).toInt)]), .p (.agg [.int .i64 p_b0, .int .i64 p_b1, .int .i64 p_b2])] []).bind fun r2 =>
        L tab C 18 [] [[1, 1, 0, 1, 0]] (S18_11010 h' (decide ((r2.1.headD .undef).pv.toInt > (0 : Int))) (IntKind.i64.wrap (i' + (1 : Int))) p_b0 p_b1 p_b2) else none
      else
        L tab C 18 [] [[1, 1, 0, 1, 0]] (S18_11010 h' false (IntKind.i64.wrap (i' + (1 : Int))) p_b0 p_b1 p_b2) else none else none else none
  else
    bif inside' then
      some ([.p (.int .i64 1)], [])
    else
      some ([.p (.int .i64 (-1))], []) := by kernel_rfl
/- hull.Area2 -/
def S19_111010 (h' : List PV) (sum' : Int) (t11' : List PV) (t12' : Int) (t13' : Int) : St := ⟨(.p (.list true [.int .i64, .int .i64, .int .i64] h')) :: .undef :: .undef :: .undef :: (.p (.int .i64 sum')) :: .undef :: .undef :: .undef :: .undef :: .undef :: .undef :: (.p (.list true [.int .i64, .int .i64, .int .i64] t11')) :: (.p (.int .i64 t12')) :: (.p (.int .i64 t13')) :: List.replicate 25 .undef, []⟩
theorem e19 (C : CallF) (h : List PV) : acallI tab C 19 [.p (.list true [.int .i64, .int .i64, .int .i64] h)] [] =
  (C 16 [.p (.list true [.int .i64, .int .i64, .int .i64] h)] []).bind fun r1 =>
  bif (!(r1.1.headD .undef).pv.toBool) then
    some ([.p (.int .i64 0), .p (.int .i64 2)], [])
  else
    L tab C 19 [] [[1, 1, 1, 0, 1, 0]] (S19_111010 h 0 h ((h.length : Nat) : Int) 0) := by kernel_rfl
theorem e19_111010 (C : CallF) (h' : List PV) (sum' : Int) (t11' : List PV) (t12' : Int) (t13' : Int) : R tab C 19 [] [[1, 1, 1, 0, 1, 0]] (S19_111010 h' sum' t11' t12' t13') =
  bif (decide (t13' < t12')) then
    bif ((decide ((0 : Int) ≤ t13')) && (decide (t13' < ((t11'.length : Nat) : Int)))) then (C 39 [.p (.list true [.int .i64, .int .i64, .int .i64] h'), .p (.int .i64 t13')] []).bind fun r1 =>
    bif ((decide ((0 : Int) ≤ (r1.1.headD .undef).pv.toInt)) && (decide ((r1.1.headD .undef).pv.toInt < ((h'.length : Nat) : Int)))) then L tab C 19 [] [[1, 1, 1, 0, 1, 0]] (S19_111010 h' (IntKind.i64.wrap (sum' + (IntKind.i64.wrap ((IntKind.i64.wrap (((t11'.getD t13'.toNat .nil).cell 0).toInt * ((h'.getD ((r1.1.headD .undef).pv.toInt.toNat) .nil).cell 1).toInt)) - (IntKind.i64.wrap (((t11'.getD t13'.toNat .nil).cell 1).toInt * ((h'.getD ((r1.1.headD .undef).pv.toInt.toNat) .nil).cell 0).toInt)))))) t11' t12' (IntKind.i64.wrap (t13' + (1 : Int)))) else none else none
  else
    some ([.p (.int .i64 sum'), .p (.int .i64 0)], []) := by kernel_rfl
/- hull.Diameter2 -/
def S20_11010 (h' : List PV) (i' : Int) (j' : Int) (square' : Int) (t14' : Int) (t15' : Int) : St := ⟨(.p (.list true [.int .i64, .int .i64, .int .i64] h')) :: .undef :: (.p (.int .i64 i')) :: (.p (.int .i64 j')) :: (.p (.int .i64 square')) :: .undef :: .undef :: .undef :: .undef :: .undef :: .undef :: .undef :: .undef :: .undef :: (.p (.int .i64 t14')) :: (.p (.int .i64 t15')) :: List.replicate 32 .undef, []⟩
def S20_11010_1100110 (h' : List PV) (i' : Int) (j' : Int) (square' : Int) (k' : Int) (m' : Int) (t14' : Int) (t15' : Int) : St := ⟨(.p (.list true [.int .i64, .int .i64, .int .i64] h')) :: .undef :: (.p (.int .i64 i')) :: (.p (.int .i64 j')) :: (.p (.int .i64 square')) :: .undef :: (.p (.int .i64 k')) :: (.p (.int .i64 m')) :: .undef :: .undef :: .undef :: .undef :: .undef :: .undef :: (.p (.int .i64 t14')) :: (.p (.int .i64 t15')) :: List.replicate 32 .undef, []⟩
theorem e20 (C : CallF) (h : List PV) : acallI tab C 20 [.p (.list true [.int .i64, .int .i64, .int .i64] h)] [] =
  (C 16 [.p (.list true [.int .i64, .int .i64, .int .i64] h)] []).bind fun r1 =>
  bif (!(r1.1.headD .undef).pv.toBool) then
    some ([.p (.int .i64 0), .p (.int .i64 0), .p (.int .i64 0), .p (.int .i64 2)], [])
  else
    L tab C 20 [] [[1, 1, 0, 1, 0]] (S20_11010 h 0 0 0 ((h.length : Nat) : Int) 0) := by kernel_rfl
theorem e20_11010 (C : CallF) (h' : List PV) (i' : Int) (j' : Int) (square' : Int) (t14' : Int) (t15' : Int) : R tab C 20 [] [[1, 1, 0, 1, 0]] (S20_11010 h' i' j' square' t14' t15') =
  bif (decide (t15' < t14')) then
    L tab C 20 [] [[1, 1, 0, 1, 0], [1, 1, 0, 0, 1, 1, 0]] (S20_11010_1100110 h' i' j' square' t15' (IntKind.i64.wrap (t15' + (1 : Int))) t14' t15')
  else
    some ([.p (.int .i64 i'), .p (.int .i64 j'), .p (.int .i64 square'), .p (.int .i64 0)], []) := by kernel_rfl
theorem e20_11010_1100110 (C : CallF) (h' : List PV) (i' : Int) (j' : Int) (square' : Int) (k' : Int) (m' : Int) (t14' : Int) (t15' : Int) : R tab C 20 [] [[1, 1, 0, 1, 0], [1, 1, 0, 0, 1, 1, 0]] (S20_11010_1100110 h' i' j' square' k' m' t14' t15') =
  bif (decide (m' < ((h'.length : Nat) : Int))) then
    bif ((decide ((0 : Int) ≤ k')) && (decide (k' < ((h'.length : Nat) : Int)))) then bif ((decide ((0 : Int) ≤ m')) && (decide (m' < ((h'.length : Nat) : Int)))) then (C 43 [.p (.agg [.int .i64 (((h'.getD k'.toNat .nil).cell 0).toInt), .int .i64 (((h'.getD k'.toNat .nil).cell 1).toInt), .int .i64 (((h'.getD k'.toNat .nil).cell 2).toInt)]), .p (.agg [.int .i64 (((h'.getD m'.toNat .nil).cell 0).toInt), .int .i64 (((h'.getD m'.toNat .nil).cell 1).toInt), .int .i64 (((h'.getD m'.toNat .nil).cell 2).toInt)])] []).bind fun r1 =>
    bif (decide ((r1.1.headD .undef).pv.toInt > square')) then
      L tab C 20 [] [[1, 1, 0, 1, 0], [1, 1, 0, 0, 1, 1, 0]] (S20_11010_1100110 h' k' m' ((r1.1.headD .undef).pv.toInt) k' (IntKind.i64.wrap (m' + (1 : Int))) t14' t15')
    else
      L tab C 20 [] [[1, 1, 0, 1, 0], [1, 1, 0, 0, 1, 1, 0]] (S20_11010_1100110 h' i' j' square' k' (IntKind.i64.wrap (m' + (1 : Int))) t14' t15') else none else none
  else
    L tab C 20 [] [[1, 1, 0, 1, 0]] (S20_11010 h' i' j' square' t14' (IntKind.i64.wrap (t15' + (1 : Int)))) := by kernel_rfl
/- hull.Extent -/
def S21_11010 (low' : Int) (high' : Int) (t18' : List PV) (t19' : Int) (t20' : Int) (direction_b0 : Int) (direction_b1 : Int) (direction_b2 : Int) : St := ⟨.undef :: .undef :: .undef :: (.ptr 3 0 0) :: (.p (.int .i64 low')) :: (.p (.int .i64 high')) :: .undef :: .undef :: .undef :: .undef :: .undef :: .undef :: .undef :: .undef :: .undef :: .undef :: .undef :: .undef :: (.p (.list true [.int .i64, .int .i64, .int .i64] t18')) :: (.p (.int .i64 t19')) :: (.p (.int .i64 t20')) :: List.replicate 28 .undef, [(3, .box [.p (.int .i64 direction_b0), .p (.int .i64 direction_b1), .p (.int .i64 direction_b2)])]⟩
theorem e21 (C : CallF) (h : List PV) (direction_0 : Int) (direction_1 : Int) (direction_2 : Int) : acallI tab C 21 [.p (.list true [.int .i64, .int .i64, .int .i64] h), .p (.agg [.int .i64 direction_0, .int .i64 direction_1, .int .i64 direction_2])] [] =
  (C 16 [.p (.list true [.int .i64, .int .i64, .int .i64] h)] []).bind fun r1 =>
  bif (!(r1.1.headD .undef).pv.toBool) then
    some ([.p (.int .i64 0), .p (.int .i64 0), .p (.int .i64 2)], [])
  else
    (C 44 [.p (.agg [.int .i64 direction_0, .int .i64 direction_1, .int .i64 direction_2])] []).bind fun r2 =>
    bif (!(r2.1.headD .undef).pv.toBool) then
      some ([.p (.int .i64 0), .p (.int .i64 0), .p (.int .i64 2)], [])
    else
      L tab C 21 [] [[1, 1, 0, 1, 0]] (S21_11010 0 0 h ((h.length : Nat) : Int) 0 direction_0 direction_1 direction_2) := by kernel_rfl
theorem e21_11010 (C : CallF) (low' : Int) (high' : Int) (t18' : List PV) (t19' : Int) (t20' : Int) (direction_b0 : Int) (direction_b1 : Int) (direction_b2 : Int) : R tab C 21 [] [[1, 1, 0, 1, 0]] (S21_11010 low' high' t18' t19' t20' direction_b0 direction_b1 direction_b2) =
  bif (decide (t20' < t19')) then
    bif ((decide ((0 : Int) ≤ t20')) && (decide (t20' < ((t18'.length : Nat) : Int)))) then bif (t20' == (0 : Int)) then
      L tab C 21 [] [[1, 1, 0, 1, 0]] (S21_11010 (goMin (IntKind.i64.wrap ((IntKind.i64.wrap (direction_b0 * ((t18'.getD t20'.toNat .nil).cell 0).toInt)) + (IntKind.i64.wrap (direction_b1 * ((t18'.getD t20'.toNat .nil).cell 1).toInt)))) (IntKind.i64.wrap ((IntKind.i64.wrap (direction_b0 * ((t18'.getD t20'.toNat .nil).cell 0).toInt)) + (IntKind.i64.wrap (direction_b1 * ((t18'.getD t20'.toNat .nil).cell 1).toInt))))) (goMax (IntKind.i64.wrap ((IntKind.i64.wrap (direction_b0 * ((t18'.getD t20'.toNat .nil).cell 0).toInt)) + (IntKind.i64.wrap (direction_b1 * ((t18'.getD t20'.toNat .nil).cell 1).toInt)))) (IntKind.i64.wrap ((IntKind.i64.wrap (direction_b0 * ((t18'.getD t20'.toNat .nil).cell 0).toInt)) + (IntKind.i64.wrap (direction_b1 * ((t18'.getD t20'.toNat .nil).cell 1).toInt))))) t18' t19' (IntKind.i64.wrap (t20' + (1 : Int))) direction_b0 direction_b1 direction_b2)
    else
      L tab C 21 [] [[1, 1, 0, 1, 0]] (S21_11010 (goMin low' (IntKind.i64.wrap ((IntKind.i64.wrap (direction_b0 * ((t18'.getD t20'.toNat .nil).cell 0).toInt)) + (IntKind.i64.wrap (direction_b1 * ((t18'.getD t20'.toNat .nil).cell 1).toInt))))) (goMax high' (IntKind.i64.wrap ((IntKind.i64.wrap (direction_b0 * ((t18'.getD t20'.toNat .nil).cell 0).toInt)) + (IntKind.i64.wrap (direction_b1 * ((t18'.getD t20'.toNat .nil).cell 1).toInt))))) t18' t19' (IntKind.i64.wrap (t20' + (1 : Int))) direction_b0 direction_b1 direction_b2) else none
  else
    some ([.p (.int .i64 low'), .p (.int .i64 high'), .p (.int .i64 0)], []) := by kernel_rfl
/- skylanternref07.Diameter2 -/
def S22_11010 (h' : List PV) (a' : Int) (b' : Int) (most' : Int) (i' : Int) : St := ⟨(.p (.list true [.int .i64, .int .i64, .int .i64] h')) :: .undef :: .undef :: .undef :: .undef :: (.p (.int .i64 a')) :: (.p (.int .i64 b')) :: (.p (.int .i64 most')) :: (.p (.int .i64 i')) :: List.replicate 40 .undef, []⟩
def S22_11010_10010 (h' : List PV) (a' : Int) (b' : Int) (most' : Int) (i' : Int) (k' : Int) : St := ⟨(.p (.list true [.int .i64, .int .i64, .int .i64] h')) :: .undef :: .undef :: .undef :: .undef :: (.p (.int .i64 a')) :: (.p (.int .i64 b')) :: (.p (.int .i64 most')) :: (.p (.int .i64 i')) :: (.p (.int .i64 k')) :: List.replicate 39 .undef, []⟩
theorem e22 (C : CallF) (h : List PV) : acallI tab C 22 [.p (.list true [.int .i64, .int .i64, .int .i64] h)] [] =
  L tab C 22 [] [[1, 1, 0, 1, 0]] (S22_11010 h 0 0 0 0) := by kernel_rfl
theorem e22_11010 (C : CallF) (h' : List PV) (a' : Int) (b' : Int) (most' : Int) (i' : Int) : R tab C 22 [] [[1, 1, 0, 1, 0]] (S22_11010 h' a' b' most' i') =
  bif (decide (i' < ((h'.length : Nat) : Int))) then
    L tab C 22 [] [[1, 1, 0, 1, 0], [1, 0, 0, 1, 0]] (S22_11010_10010 h' a' b' most' i' (IntKind.i64.wrap (i' + (1 : Int))))
  else
    some ([.p (.int .i64 a'), .p (.int .i64 b'), .p (.int .i64 most')], []) := by kernel_rfl
theorem e22_11010_10010 (C : CallF) (h' : List PV) (a' : Int) (b' : Int) (most' : Int) (i' : Int) (k' : Int) : R tab C 22 [] [[1, 1, 0, 1, 0], [1, 0, 0, 1, 0]] (S22_11010_10010 h' a' b' most' i' k') =
  bif (decide (k' < ((h'.length : Nat) : Int))) then
    bif ((decide ((0 : Int) ≤ i')) && (decide (i' < ((h'.length : Nat) : Int)))) then bif ((decide ((0 : Int) ≤ k')) && (decide (k' < ((h'.length : Nat) : Int)))) then (C 45 [.p (.agg [.int .i64 (((h'.getD i'.toNat .nil).cell 0).toInt), .int .i64 (((h'.getD i'.toNat .nil).cell 1).toInt), .int .i64 (((h'.getD i'.toNat .nil).cell 2).toInt)]), .p (.agg [.int .i64 (((h'.getD k'.toNat .nil).cell 0).toInt), .int .i64 (((h'.getD k'.toNat .nil).cell 1).toInt), .int .i64 (((h'.getD k'.toNat .nil).cell 2).toInt)])] []).bind fun r1 =>
    bif (decide ((r1.1.headD .undef).pv.toInt > most')) then
      bif ((decide ((0 : Int) ≤ i')) && (decide (i' < ((h'.length : Nat) : Int)))) then bif ((decide ((0 : Int) ≤ k')) && (decide (k' < ((h'.length : Nat) : Int)))) then (C 45 [.p (.agg [.int .i64 (((h'.getD i'.toNat .nil).cell 0).toInt), .int .i64 (((h'.getD i'.toNat .nil).cell 1).toInt), .int .i64 (((h'.getD i'.toNat .nil).cell 2).toInt)]), .p (.agg [.int .i64 (((h'.getD k'.toNat .nil).cell 0).toInt), .int .i64 (((h'.getD k'.toNat .nil).cell 1).toInt), .int .i64 (((h'.getD k'.toNat .nil).cell 2).toInt)])] []).bind fun r2 =>
      L tab C 22 [] [[1, 1, 0, 1, 0], [1, 0, 0, 1, 0]] (S22_11010_10010 h' i' k' ((r2.1.headD .undef).pv.toInt) i' (IntKind.i64.wrap (k' + (1 : Int)))) else none else none
    else
      L tab C 22 [] [[1, 1, 0, 1, 0], [1, 0, 0, 1, 0]] (S22_11010_10010 h' a' b' most' i' (IntKind.i64.wrap (k' + (1 : Int)))) else none else none
  else
    L tab C 22 [] [[1, 1, 0, 1, 0]] (S22_11010 h' a' b' most' (IntKind.i64.wrap (i' + (1 : Int)))) := by kernel_rfl
/- skylanternref07.Area2 -/
def S23_11010 (h' : List PV) (sum' : Int) (i' : Int) : St := ⟨(.p (.list true [.int .i64, .int .i64, .int .i64] h')) :: .undef :: .undef :: (.p (.int .i64 sum')) :: (.p (.int .i64 i')) :: List.replicate 29 .undef, []⟩
theorem e23 (C : CallF) (h : List PV) : acallI tab C 23 [.p (.list true [.int .i64, .int .i64, .int .i64] h)] [] =
  L tab C 23 [] [[1, 1, 0, 1, 0]] (S23_11010 h 0 1) := by kernel_rfl
theorem e23_11010 (C : CallF) (h' : List PV) (sum' : Int) (i' : Int) : R tab C 23 [] [[1, 1, 0, 1, 0]] (S23_11010 h' sum' i') =
  bif (decide ((IntKind.i64.wrap (i' + (1 : Int))) < ((h'.length : Nat) : Int))) then
    bif ((decide ((0 : Int) ≤ i')) && (decide (i' < ((h'.length : Nat) : Int)))) then bif (decide ((0 : Int) < ((h'.length : Nat) : Int))) then (C 47 [.p (.agg [.int .i64 (((h'.getD i'.toNat .nil).cell 0).toInt), .int .i64 (((h'.getD i'.toNat .nil).cell 1).toInt), .int .i64 (((h'.getD i'.toNat .nil).cell 2).toInt)]), .p (.agg [.int .i64 (((h'.getD 0 .nil).cell 0).toInt), .int .i64 (((h'.getD 0 .nil).cell 1).toInt), .int .i64 (((h'.getD 0 .nil).cell 2).toInt)])] []).bind fun r1 =>
    bif ((decide ((0 : Int) ≤ (IntKind.i64.wrap (i' + (1 : Int))))) && (decide ((IntKind.i64.wrap (i' + (1 : Int))) < ((h'.length : Nat) : Int)))) then bif (decide ((0 : Int) < ((h'.length : Nat) : Int))) then (C 47 [.p (.agg [.int .i64 (((h'.getD ((IntKind.i64.wrap (i' + (1 : Int))).toNat) .nil).cell 0).toInt), .int .i64 (((h'.getD ((IntKind.i64.wrap (i' + (1 : Int))).toNat) .nil).cell 1).toInt), .int .i64 (((h'.getD ((IntKind.i64.wrap (i' + (1 : Int))).toNat) .nil).cell 2).toInt)]), .p (.agg [.int .i64 (((h'.getD 0 .nil).cell 0).toInt), .int .i64 (((h'.getD 0 .nil).cell 1).toInt), .int .i64 (((h'.getD 0 .nil).cell 2).toInt)])] []).bind fun r2 =>
    (C 46 [.p (.agg [.int .i64 (((r1.1.headD .undef).pv.cell 0).toInt), .int .i64 (((r1.1.headD .undef).pv.cell 1).toInt), .int .i64 (((r1.1.headD .undef).pv.cell 2).toInt)]), .p (.agg [.int .i64 (((r2.1.headD .undef).pv.cell 0).toInt), .int .i64 (((r2.1.headD .undef).pv.cell 1).toInt), .int .i64 (((r2.1.headD .undef).pv.cell 2).toInt)])] []).bind fun r3 =>
    L tab C 23 [] [[1, 1, 0, 1, 0]] (S23_11010 h' (IntKind.i64.wrap (sum' + ((r3.1.headD .undef).pv.cell 2).toInt)) (IntKind.i64.wrap (i' + (1 : Int)))) else none else none else none else none
  else
    some ([.p (.int .i64 sum')], []) := by kernel_rfl
/- skylanternref06.Valid -/
theorem e24 (C : CallF) (v_0 : Int) (v_1 : Int) (v_2 : Int) : acallI tab C 24 [.p (.agg [.int .i64 v_0, .int .i64 v_1, .int .i64 v_2])] [] =
  (C 41 [.p (.agg [.int .i64 v_0, .int .i64 v_1, .int .i64 v_2]), .p (.int .i64 16777216)] []).bind fun r1 =>
  some ([.p (.bool ((r1.1.headD .undef).pv.toBool))], []) := by kernel_rfl
/- skylanternref07.Extent -/
def S25_11010 (h' : List PV) (low' : Int) (high' : Int) (i' : Int) (d_b0 : Int) (d_b1 : Int) (d_b2 : Int) : St := ⟨(.p (.list true [.int .i64, .int .i64, .int .i64] h')) :: .undef :: .undef :: (.ptr 3 0 0) :: .undef :: .undef :: (.p (.int .i64 low')) :: (.p (.int .i64 high')) :: (.p (.int .i64 i')) :: List.replicate 76 .undef, [(3, .box [.p (.int .i64 d_b0), .p (.int .i64 d_b1), .p (.int .i64 d_b2)])]⟩
theorem e25 (C : CallF) (h : List PV) (d_0 : Int) (d_1 : Int) (d_2 : Int) : acallI tab C 25 [.p (.list true [.int .i64, .int .i64, .int .i64] h), .p (.agg [.int .i64 d_0, .int .i64 d_1, .int .i64 d_2])] [] =
  bif (decide ((0 : Int) < ((h.length : Nat) : Int))) then bif (decide ((0 : Int) < ((h.length : Nat) : Int))) then bif (decide ((0 : Int) < ((h.length : Nat) : Int))) then bif (decide ((0 : Int) < ((h.length : Nat) : Int))) then L tab C 25 [] [[1, 1, 0, 1, 0]] (S25_11010 h (IntKind.i64.wrap ((IntKind.i64.wrap (d_0 * ((h.getD 0 .nil).cell 0).toInt)) + (IntKind.i64.wrap (d_1 * ((h.getD 0 .nil).cell 1).toInt)))) (IntKind.i64.wrap ((IntKind.i64.wrap (d_0 * ((h.getD 0 .nil).cell 0).toInt)) + (IntKind.i64.wrap (d_1 * ((h.getD 0 .nil).cell 1).toInt)))) 0 d_0 d_1 d_2) else none else none else none else none := by kernel_rfl
theorem e25_11010 (C : CallF) (h' : List PV) (low' : Int) (high' : Int) (i' : Int) (d_b0 : Int) (d_b1 : Int) (d_b2 : Int) : R tab C 25 [] [[1, 1, 0, 1, 0]] (S25_11010 h' low' high' i' d_b0 d_b1 d_b2) =
  bif (decide (i' < ((h'.length : Nat) : Int))) then
    bif ((decide ((0 : Int) ≤ i')) && (decide (i' < ((h'.length : Nat) : Int)))) then bif ((decide ((0 : Int) ≤ i')) && (decide (i' < ((h'.length : Nat) : Int)))) then bif ((decide ((0 : Int) ≤ i')) && (decide (i' < ((h'.length : Nat) : Int)))) then bif ((decide ((0 : Int) ≤ i')) && (decide (i' < ((h'.length : Nat) : Int)))) then L tab C 25 [] [[1, 1, 0, 1, 0]] (S25_11010 h' (goMin low' (IntKind.i64.wrap ((IntKind.i64.wrap (d_b0 * ((h'.getD i'.toNat .nil).cell 0).toInt)) + (IntKind.i64.wrap (d_b1 * ((h'.getD i'.toNat .nil).cell 1).toInt))))) (goMax high' (IntKind.i64.wrap ((IntKind.i64.wrap (d_b0 * ((h'.getD i'.toNat .nil).cell 0).toInt)) + (IntKind.i64.wrap (d_b1 * ((h'.getD i'.toNat .nil).cell 1).toInt))))) (IntKind.i64.wrap (i' + (1 : Int))) d_b0 d_b1 d_b2) else none else none else none else none
  else
    some ([.p (.int .i64 low'), .p (.int .i64 high')], []) := by kernel_rfl
/- hull.Merge -/
theorem e26 (C : CallF) (a : List PV) (b : List PV) : acallI tab C 26 [.p (.list true [.int .i64, .int .i64, .int .i64] a), .p (.list true [.int .i64, .int .i64, .int .i64] b)] [] =
  (C 16 [.p (.list true [.int .i64, .int .i64, .int .i64] a)] []).bind fun r1 =>
  bif (!(r1.1.headD .undef).pv.toBool) then
    some ([.fresh true [.int .i64, .int .i64, .int .i64] [], .p (.int .i64 2)], [])
  else
    (C 16 [.p (.list true [.int .i64, .int .i64, .int .i64] b)] []).bind fun r2 =>
    bif (!(r2.1.headD .undef).pv.toBool) then
      some ([.fresh true [.int .i64, .int .i64, .int .i64] [], .p (.int .i64 2)], [])
    else
      (C 48 [.p (.list false [.slice true [.int .i64, .int .i64, .int .i64]] [.list true [.int .i64, .int .i64, .int .i64] a, .list true [.int .i64, .int .i64, .int .i64] b])] []).bind fun r3 =>
      (C 10 [.p (.list true [.int .i64, .int .i64, .int .i64] ((((r3.1.headD .undef).freshList).drop 0).take ((r3.1.headD .undef).freshList.length)))] []).bind fun r4 =>
      some ([.fresh true [.int .i64, .int .i64, .int .i64] ((((r4.1.headD .undef).freshList).drop 0).take ((r4.1.headD .undef).freshList.length)), .p (.int .i64 0)], []) := by kernel_rfl
/- skylanternlaw07.points -/
def S27_11010 (n_' : List PV) (out_o : Nat) (out_l : Nat) (i' : Int) (out_b : List PV) : St := ⟨(.p (.list false [.int .i64] n_')) :: .undef :: .undef :: (.slice 3 3 out_o out_l) :: (.p (.int .i64 i')) :: List.replicate 21 .undef, [(3, .arr true [.int .i64, .int .i64, .int .i64] out_b)]⟩
theorem e27 (C : CallF) (n_ : List PV) : acallI tab C 27 [.p (.list false [.int .i64] n_)] [] =
  L tab C 27 [] [[1, 1, 0, 1, 0]] (S27_11010 n_ 0 0 0 []) := by kernel_rfl
theorem e27_11010 (C : CallF) (n_' : List PV) (out_o : Nat) (out_l : Nat) (i' : Int) (out_b : List PV) : R tab C 27 [] [[1, 1, 0, 1, 0]] (S27_11010 n_' out_o out_l i' out_b) =
  bif (decide ((IntKind.i64.wrap (i' + (1 : Int))) < ((n_'.length : Nat) : Int))) then
    bif ((decide ((0 : Int) ≤ i')) && (decide (i' < ((n_'.length : Nat) : Int)))) then bif ((decide ((0 : Int) ≤ (IntKind.i64.wrap (i' + (1 : Int))))) && (decide ((IntKind.i64.wrap (i' + (1 : Int))) < ((n_'.length : Nat) : Int)))) then bif (decide ((out_l + 1) ≤ 2147483648)) then L tab C 27 [] [[1, 1, 0, 1, 0]] (S27_11010 n_' 0 (out_l + 1) (IntKind.i64.wrap (i' + (2 : Int))) (((out_b.drop out_o).take out_l) ++ ([.agg [.int .i64 (((n_'.getD i'.toNat .nil).cell 0).toInt), .int .i64 (((n_'.getD ((IntKind.i64.wrap (i' + (1 : Int))).toNat) .nil).cell 0).toInt), .int .i64 0]] : List PV))) else none else none else none
  else
    some ([.fresh true [.int .i64, .int .i64, .int .i64] ((out_b.drop out_o).take out_l)], []) := by kernel_rfl
/- skylanternref06.Neg -/
theorem e28 (C : CallF) (v_0 : Int) (v_1 : Int) (v_2 : Int) : acallI tab C 28 [.p (.agg [.int .i64 v_0, .int .i64 v_1, .int .i64 v_2])] [] =
  some ([.p (.agg [.int .i64 (IntKind.i64.wrap (0 - v_0)), .int .i64 (IntKind.i64.wrap (0 - v_1)), .int .i64 (IntKind.i64.wrap (0 - v_2))])], []) := by kernel_rfl
/- vector.Point -/
theorem e29 (C : CallF) (v_0 : Int) (v_1 : Int) (v_2 : Int) : acallI tab C 29 [.p (.agg [.int .i64 v_0, .int .i64 v_1, .int .i64 v_2])] [] =
  (C 49 [.p (.int .i64 1048576), .p (.list false [.int .i64] [.int .i64 v_0, .int .i64 v_1, .int .i64 v_2])] []).bind fun r1 =>
  some ([.p (.bool ((r1.1.headD .undef).pv.toBool))], []) := by kernel_rfl
/- vector.Compare -/
theorem e31 (C : CallF) (a_0 : Int) (a_1 : Int) (a_2 : Int) (b_0 : Int) (b_1 : Int) (b_2 : Int) : acallI tab C 31 [.p (.agg [.int .i64 a_0, .int .i64 a_1, .int .i64 a_2]), .p (.agg [.int .i64 b_0, .int .i64 b_1, .int .i64 b_2])] [] =
  (C 52 [.p (.agg [.int .i64 a_0, .int .i64 a_1, .int .i64 a_2])] []).bind fun r1 =>
  (C 52 [.p (.agg [.int .i64 b_0, .int .i64 b_1, .int .i64 b_2])] []).bind fun r2 =>
  (C 53 [.p (.list false [.int .i64] [.int .i64 (((r1.1.headD .undef).pv.cell 0).toInt), .int .i64 (((r1.1.headD .undef).pv.cell 1).toInt), .int .i64 (((r1.1.headD .undef).pv.cell 2).toInt)]), .p (.list false [.int .i64] [.int .i64 (((r2.1.headD .undef).pv.cell 0).toInt), .int .i64 (((r2.1.headD .undef).pv.cell 1).toInt), .int .i64 (((r2.1.headD .undef).pv.cell 2).toInt)])] []).bind fun r3 =>
  some ([.p (.int .i64 ((r3.1.headD .undef).pv.toInt))], []) := by kernel_rfl
/- slices.Compact[[]api.Vec,api.Vec] -/
def S32_11010 (s_o : Nat) (s_l : Nat) (k' : Int) (b100000_b : List PV) : St := ⟨(.slice 100000 3 s_o s_l) :: .undef :: .undef :: (.p (.int .i64 k')) :: List.replicate 57 .undef, [(100000, .arr true [.int .i64, .int .i64, .int .i64] b100000_b)]⟩
def S32_11010_100101010 (s_o : Nat) (s_l : Nat) (k' : Int) (s2_o : Nat) (s2_l : Nat) (k2' : Int) (b100000_b : List PV) : St := ⟨(.slice 100000 3 s_o s_l) :: .undef :: .undef :: (.p (.int .i64 k')) :: (.slice 100000 3 s2_o s2_l) :: (.p (.int .i64 k2')) :: List.replicate 55 .undef, [(100000, .arr true [.int .i64, .int .i64, .int .i64] b100000_b)]⟩
theorem e32 (C : CallF) (s_o : Nat) (s_l : Nat) (s_b : List PV) : acallI tab C 32 [.slice 100000 3 s_o s_l] [.arr true [.int .i64, .int .i64, .int .i64] s_b] =
  bif (decide ((s_l : Int) < (2 : Int))) then
    some ([.slice 100000 3 s_o s_l], [.arr true [.int .i64, .int .i64, .int .i64] s_b])
  else
    L tab C 32 [.arr true [.int .i64, .int .i64, .int .i64] s_b] [[1, 1, 0, 1, 0]] (S32_11010 s_o s_l 1 s_b) := by kernel_rfl
theorem e32_11010 (C : CallF) (s_b : List PV) (s_o : Nat) (s_l : Nat) (k' : Int) (b100000_b : List PV) : R tab C 32 [.arr true [.int .i64, .int .i64, .int .i64] s_b] [[1, 1, 0, 1, 0]] (S32_11010 s_o s_l k' b100000_b) =
  bif (decide (k' < (s_l : Int))) then
    bif ((decide ((0 : Int) ≤ k')) && (decide (k' < (s_l : Int)))) then bif ((decide ((0 : Int) ≤ (IntKind.i64.wrap (k' - (1 : Int))))) && (decide ((IntKind.i64.wrap (k' - (1 : Int))) < (s_l : Int)))) then bif ((((b100000_b.getD (s_o + k'.toNat) .nil).cell 0).toInt == ((b100000_b.getD (s_o + (IntKind.i64.wrap (k' - (1 : Int))).toNat) .nil).cell 0).toInt) && ((((b100000_b.getD (s_o + k'.toNat) .nil).cell 1).toInt == ((b100000_b.getD (s_o + (IntKind.i64.wrap (k' - (1 : Int))).toNat) .nil).cell 1).toInt) && ((((b100000_b.getD (s_o + k'.toNat) .nil).cell 2).toInt == ((b100000_b.getD (s_o + (IntKind.i64.wrap (k' - (1 : Int))).toNat) .nil).cell 2).toInt) && true))) then
      bif ((decide ((0 : Int) ≤ k')) && ((decide (k' ≤ (s_l : Int))) && ((decide ((s_l : Int) ≤ (s_l : Int))) && (decide ((s_l : Int) ≤ (s_l : Int)))))) then L tab C 32 [.arr true [.int .i64, .int .i64, .int .i64] s_b] [[1, 1, 0, 1, 0], [1, 0, 0, 1, 0, 1, 0, 1, 0]] (S32_11010_100101010 s_o s_l k' (s_o + k'.toNat) (((s_l : Int) - k').toNat) 1 b100000_b) else none
    else
      L tab C 32 [.arr true [.int .i64, .int .i64, .int .i64] s_b] [[1, 1, 0, 1, 0]] (S32_11010 s_o s_l (IntKind.i64.wrap (k' + (1 : Int))) b100000_b) else none else none
  else
    some ([.slice 100000 3 s_o s_l], [.arr true [.int .i64, .int .i64, .int .i64] b100000_b]) := by kernel_rfl
theorem e32_11010_100101010 (C : CallF) (s_b : List PV) (s_o : Nat) (s_l : Nat) (k' : Int) (s2_o : Nat) (s2_l : Nat) (k2' : Int) (b100000_b : List PV) : R tab C 32 [.arr true [.int .i64, .int .i64, .int .i64] s_b] [[1, 1, 0, 1, 0], [1, 0, 0, 1, 0, 1, 0, 1, 0]] (S32_11010_100101010 s_o s_l k' s2_o s2_l k2' b100000_b) =
  bif (decide (k2' < (s2_l : Int))) then
    bif ((decide ((0 : Int) ≤ k2')) && (decide (k2' < (s2_l : Int)))) then bif ((decide ((0 : Int) ≤ (IntKind.i64.wrap (k2' - (1 : Int))))) && (decide ((IntKind.i64.wrap (k2' - (1 : Int))) < (s2_l : Int)))) then bif (!((((b100000_b.getD (s2_o + k2'.toNat) .nil).cell 0).toInt == ((b100000_b.getD (s2_o + (IntKind.i64.wrap (k2' - (1 : Int))).toNat) .nil).cell 0).toInt) && ((((b100000_b.getD (s2_o + k2'.toNat) .nil).cell 1).toInt == ((b100000_b.getD (s2_o + (IntKind.i64.wrap (k2' - (1 : Int))).toNat) .nil).cell 1).toInt) && ((((b100000_b.getD (s2_o + k2'.toNat) .nil).cell 2).toInt == ((b100000_b.getD (s2_o + (IntKind.i64.wrap (k2' - (1 : Int))).toNat) .nil).cell 2).toInt) && true)))) then
      bif ((decide ((0 : Int) ≤ k2')) && (decide (k2' < (s2_l : Int)))) then bif ((decide ((0 : Int) ≤ k')) && (decide (k' < (s_l : Int)))) then L tab C 32 [.arr true [.int .i64, .int .i64, .int .i64] s_b] [[1, 1, 0, 1, 0], [1, 0, 0, 1, 0, 1, 0, 1, 0]] (S32_11010_100101010 s_o s_l (IntKind.i64.wrap (k' + (1 : Int))) s2_o s2_l (IntKind.i64.wrap (k2' + (1 : Int))) (b100000_b.set (s_o + k'.toNat) (PV.agg [.int .i64 (((b100000_b.getD (s2_o + k2'.toNat) .nil).cell 0).toInt), .int .i64 (((b100000_b.getD (s2_o + k2'.toNat) .nil).cell 1).toInt), .int .i64 (((b100000_b.getD (s2_o + k2'.toNat) .nil).cell 2).toInt)]))) else none else none
    else
      L tab C 32 [.arr true [.int .i64, .int .i64, .int .i64] s_b] [[1, 1, 0, 1, 0], [1, 0, 0, 1, 0, 1, 0, 1, 0]] (S32_11010_100101010 s_o s_l k' s2_o s2_l (IntKind.i64.wrap (k2' + (1 : Int))) b100000_b) else none else none
  else
    bif ((decide ((0 : Int) ≤ k')) && ((decide (k' ≤ (s_l : Int))) && ((decide ((s_l : Int) ≤ (s_l : Int))) && (decide ((s_l : Int) ≤ (s_l : Int)))))) then bif ((decide ((0 : Int) ≤ k')) && ((decide (k' ≤ (s_l : Int))) && (decide ((s_l : Int) ≤ (s_l : Int))))) then some ([.slice 100000 3 (s_o + 0) ((k' - (0 : Int)).toNat)], [.arr true [.int .i64, .int .i64, .int .i64] (patch b100000_b (s_o + k'.toNat) (List.replicate (((s_l : Int) - k').toNat) (PV.agg [.int .i64 0, .int .i64 0, .int .i64 0])))]) else none else none := by kernel_rfl
/- hull.chain -/
def S33_11010 (out_o : Nat) (out_l : Nat) (t6' : List PV) (t7' : Int) (t8' : Int) (out_b : List PV) : St := ⟨.undef :: .undef :: .undef :: (.slice 3 3 out_o out_l) :: .undef :: .undef :: (.p (.list true [.int .i64, .int .i64, .int .i64] t6')) :: (.p (.int .i64 t7')) :: (.p (.int .i64 t8')) :: List.replicate 34 .undef, [(3, .arr true [.int .i64, .int .i64, .int .i64] out_b)]⟩
def S33_11010_1100100 (out_o : Nat) (out_l : Nat) (t6' : List PV) (t7' : Int) (t8' : Int) (out_b : List PV) (p_b0 : Int) (p_b1 : Int) (p_b2 : Int) : St := ⟨.undef :: .undef :: .undef :: (.slice 3 3 out_o out_l) :: .undef :: (.ptr 5 0 0) :: (.p (.list true [.int .i64, .int .i64, .int .i64] t6')) :: (.p (.int .i64 t7')) :: (.p (.int .i64 t8')) :: List.replicate 34 .undef, [(3, .arr true [.int .i64, .int .i64, .int .i64] out_b), (5, .box [.p (.int .i64 p_b0), .p (.int .i64 p_b1), .p (.int .i64 p_b2)])]⟩
theorem e33 (C : CallF) (l : List PV) : acallI tab C 33 [.p (.list true [.int .i64, .int .i64, .int .i64] l)] [] =
  L tab C 33 [] [[1, 1, 0, 1, 0]] (S33_11010 0 0 l ((l.length : Nat) : Int) 0 []) := by kernel_rfl
theorem e33_11010 (C : CallF) (out_o : Nat) (out_l : Nat) (t6' : List PV) (t7' : Int) (t8' : Int) (out_b : List PV) : R tab C 33 [] [[1, 1, 0, 1, 0]] (S33_11010 out_o out_l t6' t7' t8' out_b) =
  bif (decide (t8' < t7')) then
    bif ((decide ((0 : Int) ≤ t8')) && (decide (t8' < ((t6'.length : Nat) : Int)))) then L tab C 33 [] [[1, 1, 0, 1, 0], [1, 1, 0, 0, 1, 0, 0]] (S33_11010_1100100 out_o out_l t6' t7' t8' out_b (((t6'.getD t8'.toNat .nil).cell 0).toInt) (((t6'.getD t8'.toNat .nil).cell 1).toInt) (((t6'.getD t8'.toNat .nil).cell 2).toInt)) else none
  else
    some ([.fresh true [.int .i64, .int .i64, .int .i64] ((out_b.drop out_o).take out_l)], []) := by kernel_rfl
theorem e33_11010_1100100 (C : CallF) (out_o : Nat) (out_l : Nat) (t6' : List PV) (t7' : Int) (t8' : Int) (out_b : List PV) (p_b0 : Int) (p_b1 : Int) (p_b2 : Int) : R tab C 33 [] [[1, 1, 0, 1, 0], [1, 1, 0, 0, 1, 0, 0]] (S33_11010_1100100 out_o out_l t6' t7' t8' out_b p_b0 p_b1 p_b2) =
  bif (decide ((out_l : Int) ≥ (2 : Int))) then
    bif ((decide ((0 : Int) ≤ (IntKind.i64.wrap ((out_l : Int) - (2 : Int))))) && (decide ((IntKind.i64.wrap ((out_l : Int) - (2 : Int))) < (out_l : Int)))) then bif ((decide ((0 : Int) ≤ (IntKind.i64.wrap ((out_l : Int) - (1 : Int))))) && (decide ((IntKind.i64.wrap ((out_l : Int) - (1 : Int))) < (out_l : Int)))) then (C 38 [.p (.agg [.int .i64 (((out_b.getD (out_o + (IntKind.i64.wrap ((out_l : Int) - (2 : Int))).toNat) .nil).cell 0).toInt), .int .i64 (((out_b.getD (out_o + (IntKind.i64.wrap ((out_l : Int) - (2 : Int))).toNat) .nil).cell 1).toInt), .int .i64 (((out_b.getD (out_o + (IntKind.i64.wrap ((out_l : Int) - (2 : Int))).toNat) .nil).cell 2).toInt)]), .p (.agg [.int .i64 (((out_b.getD (out_o + (IntKind.i64.wrap ((out_l : Int) - (1 : Int))).toNat) .nil).cell 0).toInt), .int .i64 (((out_b.getD (out_o + (IntKind.i64.wrap ((out_l : Int) - (1 : Int))).toNat) .nil).cell 1).toInt), .int .i64 (((out_b.getD (out_o + (IntKind.i64.wrap ((out_l : Int) - (1 : Int))).toNat) .nil).cell 2).toInt)]), .p (.agg [.int .i64 p_b0, .int .i64 p_b1, .int .i64 p_b2])] []).bind fun r1 =>
    bif (decide ((r1.1.headD .undef).pv.toInt ≤ (0 : Int))) then
      bif ((decide ((0 : Int) ≤ (IntKind.i64.wrap ((out_l : Int) - (1 : Int))))) && ((decide ((IntKind.i64.wrap ((out_l : Int) - (1 : Int))) ≤ (out_l : Int))) && (decide ((out_l : Int) ≤ (out_l : Int))))) then L tab C 33 [] [[1, 1, 0, 1, 0], [1, 1, 0, 0, 1, 0, 0]] (S33_11010_1100100 (out_o + 0) (((IntKind.i64.wrap ((out_l : Int) - (1 : Int))) - (0 : Int)).toNat) t6' t7' t8' out_b p_b0 p_b1 p_b2) else none
    else
      bif (decide ((out_l + 1) ≤ 2147483648)) then L tab C 33 [] [[1, 1, 0, 1, 0]] (S33_11010 0 (out_l + 1) t6' t7' (IntKind.i64.wrap (t8' + (1 : Int))) (((out_b.drop out_o).take out_l) ++ ([.agg [.int .i64 p_b0, .int .i64 p_b1, .int .i64 p_b2]] : List PV))) else none else none else none
  else
    bif (decide ((out_l + 1) ≤ 2147483648)) then L tab C 33 [] [[1, 1, 0, 1, 0]] (S33_11010 0 (out_l + 1) t6' t7' (IntKind.i64.wrap (t8' + (1 : Int))) (((out_b.drop out_o).take out_l) ++ ([.agg [.int .i64 p_b0, .int .i64 p_b1, .int .i64 p_b2]] : List PV))) else none := by kernel_rfl
/- slices.Reverse[[]api.Vec,api.Vec] -/
def S34_10 (s_o : Nat) (s_l : Nat) (i' : Int) (j' : Int) (b100000_b : List PV) : St := ⟨(.slice 100000 3 s_o s_l) :: .undef :: (.p (.int .i64 i')) :: (.p (.int .i64 j')) :: List.replicate 24 .undef, [(100000, .arr true [.int .i64, .int .i64, .int .i64] b100000_b)]⟩
theorem e34 (C : CallF) (s_o : Nat) (s_l : Nat) (s_b : List PV) : acallI tab C 34 [.slice 100000 3 s_o s_l] [.arr true [.int .i64, .int .i64, .int .i64] s_b] =
  L tab C 34 [.arr true [.int .i64, .int .i64, .int .i64] s_b] [[1, 0]] (S34_10 s_o s_l 0 (IntKind.i64.wrap ((s_l : Int) - (1 : Int))) s_b) := by kernel_rfl
theorem e34_10 (C : CallF) (s_b : List PV) (s_o : Nat) (s_l : Nat) (i' : Int) (j' : Int) (b100000_b : List PV) : R tab C 34 [.arr true [.int .i64, .int .i64, .int .i64] s_b] [[1, 0]] (S34_10 s_o s_l i' j' b100000_b) =
  bif (decide (i' < j')) then
    bif ((decide ((0 : Int) ≤ j')) && (decide (j' < (s_l : Int)))) then bif ((decide ((0 : Int) ≤ i')) && (decide (i' < (s_l : Int)))) then bif ((decide ((0 : Int) ≤ i')) && (decide (i' < (s_l : Int)))) then bif ((decide ((0 : Int) ≤ j')) && (decide (j' < (s_l : Int)))) then L tab C 34 [.arr true [.int .i64, .int .i64, .int .i64] s_b] [[1, 0]] (S34_10 s_o s_l (IntKind.i64.wrap (i' + (1 : Int))) (IntKind.i64.wrap (j' - (1 : Int))) ((b100000_b.set (s_o + i'.toNat) (PV.agg [.int .i64 (((b100000_b.getD (s_o + j'.toNat) .nil).cell 0).toInt), .int .i64 (((b100000_b.getD (s_o + j'.toNat) .nil).cell 1).toInt), .int .i64 (((b100000_b.getD (s_o + j'.toNat) .nil).cell 2).toInt)])).set (s_o + j'.toNat) (PV.agg [.int .i64 (((b100000_b.getD (s_o + i'.toNat) .nil).cell 0).toInt), .int .i64 (((b100000_b.getD (s_o + i'.toNat) .nil).cell 1).toInt), .int .i64 (((b100000_b.getD (s_o + i'.toNat) .nil).cell 2).toInt)]))) else none else none else none else none
  else
    some ([], [.arr true [.int .i64, .int .i64, .int .i64] b100000_b]) := by kernel_rfl
/- skylanternref06.Compare -/
def S35_1010 (i' : Int) (a_b0 : Int) (a_b1 : Int) (a_b2 : Int) (b_b0 : Int) (b_b1 : Int) (b_b2 : Int) : St := ⟨.undef :: .undef :: (.ptr 2 0 0) :: (.ptr 3 0 0) :: .undef :: (.p (.int .i64 i')) :: List.replicate 18 .undef, [(2, .box [.p (.int .i64 a_b0), .p (.int .i64 a_b1), .p (.int .i64 a_b2)]), (3, .box [.p (.int .i64 b_b0), .p (.int .i64 b_b1), .p (.int .i64 b_b2)])]⟩
theorem e35 (C : CallF) (a_0 : Int) (a_1 : Int) (a_2 : Int) (b_0 : Int) (b_1 : Int) (b_2 : Int) : acallI tab C 35 [.p (.agg [.int .i64 a_0, .int .i64 a_1, .int .i64 a_2]), .p (.agg [.int .i64 b_0, .int .i64 b_1, .int .i64 b_2])] [] =
  L tab C 35 [] [[1, 0, 1, 0]] (S35_1010 0 a_0 a_1 a_2 b_0 b_1 b_2) := by kernel_rfl
theorem e35_1010 (C : CallF) (i' : Int) (a_b0 : Int) (a_b1 : Int) (a_b2 : Int) (b_b0 : Int) (b_b1 : Int) (b_b2 : Int) : R tab C 35 [] [[1, 0, 1, 0]] (S35_1010 i' a_b0 a_b1 a_b2 b_b0 b_b1 b_b2) =
  bif (decide (i' < (3 : Int))) then
    (C 54 [.p (.agg [.int .i64 a_b0, .int .i64 a_b1, .int .i64 a_b2]), .p (.int .i64 i')] []).bind fun r1 =>
    (C 54 [.p (.agg [.int .i64 b_b0, .int .i64 b_b1, .int .i64 b_b2]), .p (.int .i64 i')] []).bind fun r2 =>
    bif (decide ((r1.1.headD .undef).pv.toInt < (r2.1.headD .undef).pv.toInt)) then
      some ([.p (.int .i64 (-1))], [])
    else
      (C 54 [.p (.agg [.int .i64 a_b0, .int .i64 a_b1, .int .i64 a_b2]), .p (.int .i64 i')] []).bind fun r3 =>
      (C 54 [.p (.agg [.int .i64 b_b0, .int .i64 b_b1, .int .i64 b_b2]), .p (.int .i64 i')] []).bind fun r4 =>
      bif (decide ((r3.1.headD .undef).pv.toInt > (r4.1.headD .undef).pv.toInt)) then
        some ([.p (.int .i64 1)], [])
      else
        L tab C 35 [] [[1, 0, 1, 0]] (S35_1010 (IntKind.i64.wrap (i' + (1 : Int))) a_b0 a_b1 a_b2 b_b0 b_b1 b_b2)
  else
    some ([.p (.int .i64 0)], []) := by kernel_rfl
/- skylanternref07.covered -/
def S36_1010 (l' : List PV) (i' : Int) (p_b0 : Int) (p_b1 : Int) (p_b2 : Int) : St := ⟨(.p (.list true [.int .i64, .int .i64, .int .i64] l')) :: .undef :: .undef :: (.ptr 3 0 0) :: .undef :: (.p (.int .i64 i')) :: List.replicate 56 .undef, [(3, .box [.p (.int .i64 p_b0), .p (.int .i64 p_b1), .p (.int .i64 p_b2)])]⟩
def S36_1010_10010 (l' : List PV) (i' : Int) (k' : Int) (p_b0 : Int) (p_b1 : Int) (p_b2 : Int) : St := ⟨(.p (.list true [.int .i64, .int .i64, .int .i64] l')) :: .undef :: .undef :: (.ptr 3 0 0) :: .undef :: (.p (.int .i64 i')) :: (.p (.int .i64 k')) :: List.replicate 55 .undef, [(3, .box [.p (.int .i64 p_b0), .p (.int .i64 p_b1), .p (.int .i64 p_b2)])]⟩
def S36_1010_10010_10010 (l' : List PV) (i' : Int) (k' : Int) (m' : Int) (p_b0 : Int) (p_b1 : Int) (p_b2 : Int) : St := ⟨(.p (.list true [.int .i64, .int .i64, .int .i64] l')) :: .undef :: .undef :: (.ptr 3 0 0) :: .undef :: (.p (.int .i64 i')) :: (.p (.int .i64 k')) :: (.p (.int .i64 m')) :: List.replicate 54 .undef, [(3, .box [.p (.int .i64 p_b0), .p (.int .i64 p_b1), .p (.int .i64 p_b2)])]⟩
theorem e36 (C : CallF) (l : List PV) (p_0 : Int) (p_1 : Int) (p_2 : Int) : acallI tab C 36 [.p (.list true [.int .i64, .int .i64, .int .i64] l), .p (.agg [.int .i64 p_0, .int .i64 p_1, .int .i64 p_2])] [] =
  L tab C 36 [] [[1, 0, 1, 0]] (S36_1010 l 0 p_0 p_1 p_2) := by kernel_rfl
theorem e36_1010 (C : CallF) (l' : List PV) (i' : Int) (p_b0 : Int) (p_b1 : Int) (p_b2 : Int) : R tab C 36 [] [[1, 0, 1, 0]] (S36_1010 l' i' p_b0 p_b1 p_b2) =
  bif (decide (i' < ((l'.length : Nat) : Int))) then
    L tab C 36 [] [[1, 0, 1, 0], [1, 0, 0, 1, 0]] (S36_1010_10010 l' i' 0 p_b0 p_b1 p_b2)
  else
    some ([.p (.bool false)], []) := by kernel_rfl
theorem e36_1010_10010 (C : CallF) (l' : List PV) (i' : Int) (k' : Int) (p_b0 : Int) (p_b1 : Int) (p_b2 : Int) : R tab C 36 [] [[1, 0, 1, 0], [1, 0, 0, 1, 0]] (S36_1010_10010 l' i' k' p_b0 p_b1 p_b2) =
  bif (decide (k' ≤ i')) then
    L tab C 36 [] [[1, 0, 1, 0], [1, 0, 0, 1, 0], [1, 0, 0, 1, 0]] (S36_1010_10010_10010 l' i' k' 0 p_b0 p_b1 p_b2)
  else
    L tab C 36 [] [[1, 0, 1, 0]] (S36_1010 l' (IntKind.i64.wrap (i' + (1 : Int))) p_b0 p_b1 p_b2) := by kernel_rfl
theorem e36_1010_10010_10010 (C : CallF) (l' : List PV) (i' : Int) (k' : Int) (m' : Int) (p_b0 : Int) (p_b1 : Int) (p_b2 : Int) : R tab C 36 [] [[1, 0, 1, 0], [1, 0, 0, 1, 0], [1, 0, 0, 1, 0]] (S36_1010_10010_10010 l' i' k' m' p_b0 p_b1 p_b2) =
  bif (decide (m' ≤ k')) then
    bif ((decide ((0 : Int) ≤ i')) && (decide (i' < ((l'.length : Nat) : Int)))) then bif (!((((l'.getD i'.toNat .nil).cell 0).toInt == p_b0) && ((((l'.getD i'.toNat .nil).cell 1).toInt == p_b1) && ((((l'.getD i'.toNat .nil).cell 2).toInt == p_b2) && true)))) then
      bif ((decide ((0 : Int) ≤ k')) && (decide (k' < ((l'.length : Nat) : Int)))) then bif (!((((l'.getD k'.toNat .nil).cell 0).toInt == p_b0) && ((((l'.getD k'.toNat .nil).cell 1).toInt == p_b1) && ((((l'.getD k'.toNat .nil).cell 2).toInt == p_b2) && true)))) then
        bif ((decide ((0 : Int) ≤ m')) && (decide (m' < ((l'.length : Nat) : Int)))) then bif (!((((l'.getD m'.toNat .nil).cell 0).toInt == p_b0) && ((((l'.getD m'.toNat .nil).cell 1).toInt == p_b1) && ((((l'.getD m'.toNat .nil).cell 2).toInt == p_b2) && true)))) then
          bif ((decide ((0 : Int) ≤ i')) && (decide (i' < ((l'.length : Nat) : Int)))) then bif ((decide ((0 : Int) ≤ k')) && (decide (k' < ((l'.length : Nat) : Int)))) then bif ((decide ((0 : Int) ≤ m')) && (decide (m' < ((l'.length : Nat) : Int)))) then (C 55 [.p (.agg [.int .i64 (((l'.getD i'.toNat .nil).cell 0).toInt), .int .i64 (((l'.getD i'.toNat .nil).cell 1).toInt), .int .i64 (((l'.getD i'.toNat .nil).cell 2).toInt)]), .p (.agg [.int .i64 (((l'.getD k'.toNat .nil).cell 0).toInt), .int .i64 (((l'.getD k'.toNat .nil).cell 1).toInt), .int .i64 (((l'.getD k'.toNat .nil).cell 2).toInt)]), .p (.agg [.int .i64 (((l'.getD m'.toNat .nil).cell 0).toInt), .int .i64 (((l'.getD m'.toNat .nil).cell 1).toInt), .int .i64 (((l'.getD m'.toNat .nil).cell 2).toInt)]), .p (.agg [.int .i64 p_b0, .int .i64 p_b1, .int .i64 p_b2])] []).bind fun r1 =>
          bif (r1.1.headD .undef).pv.toBool then
            some ([.p (.bool true)], [])
          else
            L tab C 36 [] [[1, 0, 1, 0], [1, 0, 0, 1, 0], [1, 0, 0, 1, 0]] (S36_1010_10010_10010 l' i' k' (IntKind.i64.wrap (m' + (1 : Int))) p_b0 p_b1 p_b2) else none else none else none
        else
          L tab C 36 [] [[1, 0, 1, 0], [1, 0, 0, 1, 0], [1, 0, 0, 1, 0]] (S36_1010_10010_10010 l' i' k' (IntKind.i64.wrap (m' + (1 : Int))) p_b0 p_b1 p_b2) else none
      else
        L tab C 36 [] [[1, 0, 1, 0], [1, 0, 0, 1, 0], [1, 0, 0, 1, 0]] (S36_1010_10010_10010 l' i' k' (IntKind.i64.wrap (m' + (1 : Int))) p_b0 p_b1 p_b2) else none
    else
      L tab C 36 [] [[1, 0, 1, 0], [1, 0, 0, 1, 0], [1, 0, 0, 1, 0]] (S36_1010_10010_10010 l' i' k' (IntKind.i64.wrap (m' + (1 : Int))) p_b0 p_b1 p_b2) else none
  else
    L tab C 36 [] [[1, 0, 1, 0], [1, 0, 0, 1, 0]] (S36_1010_10010 l' i' (IntKind.i64.wrap (k' + (1 : Int))) p_b0 p_b1 p_b2) := by kernel_rfl
/- skylanternref06.Turn -/
theorem e37 (C : CallF) (a_0 : Int) (a_1 : Int) (a_2 : Int) (b_0 : Int) (b_1 : Int) (b_2 : Int) (c_0 : Int) (c_1 : Int) (c_2 : Int) : acallI tab C 37 [.p (.agg [.int .i64 a_0, .int .i64 a_1, .int .i64 a_2]), .p (.agg [.int .i64 b_0, .int .i64 b_1, .int .i64 b_2]), .p (.agg [.int .i64 c_0, .int .i64 c_1, .int .i64 c_2])] [] =
  (C 47 [.p (.agg [.int .i64 b_0, .int .i64 b_1, .int .i64 b_2]), .p (.agg [.int .i64 a_0, .int .i64 a_1, .int .i64 a_2])] []).bind fun r1 =>
  (C 47 [.p (.agg [.int .i64 c_0, .int .i64 c_1, .int .i64 c_2]), .p (.agg [.int .i64 a_0, .int .i64 a_1, .int .i64 a_2])] []).bind fun r2 =>
  (C 46 [.p (.agg [.int .i64 (((r1.1.headD .undef).pv.cell 0).toInt), .int .i64 (((r1.1.headD .undef).pv.cell 1).toInt), .int .i64 (((r1.1.headD .undef).pv.cell 2).toInt)]), .p (.agg [.int .i64 (((r2.1.headD .undef).pv.cell 0).toInt), .int .i64 (((r2.1.headD .undef).pv.cell 1).toInt), .int .i64 (((r2.1.headD .undef).pv.cell 2).toInt)])] []).bind fun r3 =>
  bif (decide (((r3.1.headD .undef).pv.cell 2).toInt > (0 : Int))) then
    some ([.p (.int .i64 1)], [])
  else
    bif (decide (((r3.1.headD .undef).pv.cell 2).toInt < (0 : Int))) then
      some ([.p (.int .i64 (-1))], [])
    else
      some ([.p (.int .i64 0)], []) := by kernel_rfl
/- hull.turn -/
theorem e38 (C : CallF) (a_0 : Int) (a_1 : Int) (a_2 : Int) (b_0 : Int) (b_1 : Int) (b_2 : Int) (c_0 : Int) (c_1 : Int) (c_2 : Int) : acallI tab C 38 [.p (.agg [.int .i64 a_0, .int .i64 a_1, .int .i64 a_2]), .p (.agg [.int .i64 b_0, .int .i64 b_1, .int .i64 b_2]), .p (.agg [.int .i64 c_0, .int .i64 c_1, .int .i64 c_2])] [] =
  (C 56 [.p (.agg [.int .i64 a_0, .int .i64 a_1, .int .i64 a_2]), .p (.agg [.int .i64 b_0, .int .i64 b_1, .int .i64 b_2]), .p (.agg [.int .i64 c_0, .int .i64 c_1, .int .i64 c_2])] []).bind fun r1 =>
  some ([.p (.int .i64 ((r1.1.headD .undef).pv.toInt))], []) := by kernel_rfl
/- hull.next -/
theorem e39 (C : CallF) (h : List PV) (i : Int) : acallI tab C 39 [.p (.list true [.int .i64, .int .i64, .int .i64] h), .p (.int .i64 i)] [] =
  bif (!(decide (((h.length : Nat) : Int) = (0 : Int)))) then some ([.p (.int .i64 ((IntKind.i64.wrap (i + (1 : Int))).tmod ((h.length : Nat) : Int)))], []) else none := by kernel_rfl
/- slices.Equal[[]api.Vec,api.Vec] -/
def S40_11010 (s1' : List PV) (s2' : List PV) (t12' : Int) (t13' : Int) : St := ⟨(.p (.list true [.int .i64, .int .i64, .int .i64] s1')) :: (.p (.list true [.int .i64, .int .i64, .int .i64] s2')) :: .undef :: .undef :: .undef :: .undef :: .undef :: .undef :: .undef :: .undef :: .undef :: .undef :: (.p (.int .i64 t12')) :: (.p (.int .i64 t13')) :: List.replicate 12 .undef, []⟩
theorem e40 (C : CallF) (s1 : List PV) (s2 : List PV) : acallI tab C 40 [.p (.list true [.int .i64, .int .i64, .int .i64] s1), .p (.list true [.int .i64, .int .i64, .int .i64] s2)] [] =
  bif (((s1.length : Nat) : Int) != ((s2.length : Nat) : Int)) then
    some ([.p (.bool false)], [])
  else
    L tab C 40 [] [[1, 1, 0, 1, 0]] (S40_11010 s1 s2 ((s1.length : Nat) : Int) 0) := by kernel_rfl
theorem e40_11010 (C : CallF) (s1' : List PV) (s2' : List PV) (t12' : Int) (t13' : Int) : R tab C 40 [] [[1, 1, 0, 1, 0]] (S40_11010 s1' s2' t12' t13') =
  bif (decide (t13' < t12')) then
    bif ((decide ((0 : Int) ≤ t13')) && (decide (t13' < ((s1'.length : Nat) : Int)))) then bif ((decide ((0 : Int) ≤ t13')) && (decide (t13' < ((s2'.length : Nat) : Int)))) then bif (!((((s1'.getD t13'.toNat .nil).cell 0).toInt == ((s2'.getD t13'.toNat .nil).cell 0).toInt) && ((((s1'.getD t13'.toNat .nil).cell 1).toInt == ((s2'.getD t13'.toNat .nil).cell 1).toInt) && ((((s1'.getD t13'.toNat .nil).cell 2).toInt == ((s2'.getD t13'.toNat .nil).cell 2).toInt) && true)))) then
      some ([.p (.bool false)], [])
    else
      L tab C 40 [] [[1, 1, 0, 1, 0]] (S40_11010 s1' s2' t12' (IntKind.i64.wrap (t13' + (1 : Int)))) else none else none
  else
    some ([.p (.bool true)], []) := by kernel_rfl
/- skylanternref06.within -/
def S41_1010 (most' : Int) (i' : Int) (v_b0 : Int) (v_b1 : Int) (v_b2 : Int) : St := ⟨.undef :: (.p (.int .i64 most')) :: (.ptr 2 0 0) :: .undef :: .undef :: (.p (.int .i64 i')) :: List.replicate 17 .undef, [(2, .box [.p (.int .i64 v_b0), .p (.int .i64 v_b1), .p (.int .i64 v_b2)])]⟩
theorem e41 (C : CallF) (v_0 : Int) (v_1 : Int) (v_2 : Int) (most : Int) : acallI tab C 41 [.p (.agg [.int .i64 v_0, .int .i64 v_1, .int .i64 v_2]), .p (.int .i64 most)] [] =
  L tab C 41 [] [[1, 0, 1, 0]] (S41_1010 most 0 v_0 v_1 v_2) := by kernel_rfl
theorem e41_1010 (C : CallF) (most' : Int) (i' : Int) (v_b0 : Int) (v_b1 : Int) (v_b2 : Int) : R tab C 41 [] [[1, 0, 1, 0]] (S41_1010 most' i' v_b0 v_b1 v_b2) =
  bif (decide (i' < (3 : Int))) then
    (C 54 [.p (.agg [.int .i64 v_b0, .int .i64 v_b1, .int .i64 v_b2]), .p (.int .i64 i')] []).bind fun r1 =>
    bif (decide ((r1.1.headD .undef).pv.toInt > most')) then
      some ([.p (.bool false)], [])
    else
      (C 54 [.p (.agg [.int .i64 v_b0, .int .i64 v_b1, .int .i64 v_b2]), .p (.int .i64 i')] []).bind fun r2 =>
      bif (decide ((r2.1.headD .undef).pv.toInt < (IntKind.i64.wrap (0 - most')))) then
        some ([.p (.bool false)], [])
      else
        L tab C 41 [] [[1, 0, 1, 0]] (S41_1010 most' (IntKind.i64.wrap (i' + (1 : Int))) v_b0 v_b1 v_b2)
  else
    some ([.p (.bool true)], []) := by kernel_rfl
/- skylanternref07.On -/
theorem e42 (C : CallF) (a_0 : Int) (a_1 : Int) (a_2 : Int) (b_0 : Int) (b_1 : Int) (b_2 : Int) (p_0 : Int) (p_1 : Int) (p_2 : Int) : acallI tab C 42 [.p (.agg [.int .i64 a_0, .int .i64 a_1, .int .i64 a_2]), .p (.agg [.int .i64 b_0, .int .i64 b_1, .int .i64 b_2]), .p (.agg [.int .i64 p_0, .int .i64 p_1, .int .i64 p_2])] [] =
  (C 37 [.p (.agg [.int .i64 a_0, .int .i64 a_1, .int .i64 a_2]), .p (.agg [.int .i64 b_0, .int .i64 b_1, .int .i64 b_2]), .p (.agg [.int .i64 p_0, .int .i64 p_1, .int .i64 p_2])] []).bind fun r1 =>
  bif ((r1.1.headD .undef).pv.toInt == (0 : Int)) then
    bif (decide ((goMin a_0 b_0) ≤ p_0)) then
      bif (decide (p_0 ≤ (goMax a_0 b_0))) then
        bif (decide ((goMin a_1 b_1) ≤ p_1)) then
          some ([.p (.bool (decide (p_1 ≤ (goMax a_1 b_1))))], [])
        else
          some ([.p (.bool false)], [])
      else
        some ([.p (.bool false)], [])
    else
      some ([.p (.bool false)], [])
  else
    some ([.p (.bool false)], []) := by kernel_rfl
/- vector.Distance2 -/
theorem e43 (C : CallF) (a_0 : Int) (a_1 : Int) (a_2 : Int) (b_0 : Int) (b_1 : Int) (b_2 : Int) : acallI tab C 43 [.p (.agg [.int .i64 a_0, .int .i64 a_1, .int .i64 a_2]), .p (.agg [.int .i64 b_0, .int .i64 b_1, .int .i64 b_2])] [] =
  (C 44 [.p (.agg [.int .i64 a_0, .int .i64 a_1, .int .i64 a_2])] []).bind fun r1 =>
  bif (!(r1.1.headD .undef).pv.toBool) then
    some ([.p (.int .i64 0), .p (.int .i64 2)], [])
  else
    (C 44 [.p (.agg [.int .i64 b_0, .int .i64 b_1, .int .i64 b_2])] []).bind fun r2 =>
    bif (!(r2.1.headD .undef).pv.toBool) then
      some ([.p (.int .i64 0), .p (.int .i64 2)], [])
    else
      (C 57 [.p (.agg [.int .i64 a_0, .int .i64 a_1, .int .i64 a_2]), .p (.agg [.int .i64 b_0, .int .i64 b_1, .int .i64 b_2]), .p (.fn 58 [])] []).bind fun r3 =>
      (C 59 [.p (.agg [.int .i64 (((r3.1.headD .undef).pv.cell 0).toInt), .int .i64 (((r3.1.headD .undef).pv.cell 1).toInt), .int .i64 (((r3.1.headD .undef).pv.cell 2).toInt)]), .p (.agg [.int .i64 (((r3.1.headD .undef).pv.cell 0).toInt), .int .i64 (((r3.1.headD .undef).pv.cell 1).toInt), .int .i64 (((r3.1.headD .undef).pv.cell 2).toInt)])] []).bind fun r4 =>
      some ([.p (.int .i64 ((r4.1.headD .undef).pv.toInt)), .p (.int .i64 0)], []) := by kernel_rfl
/- vector.Valid -/
theorem e44 (C : CallF) (v_0 : Int) (v_1 : Int) (v_2 : Int) : acallI tab C 44 [.p (.agg [.int .i64 v_0, .int .i64 v_1, .int .i64 v_2])] [] =
  (C 49 [.p (.int .i64 16777216), .p (.list false [.int .i64] [.int .i64 v_0, .int .i64 v_1, .int .i64 v_2])] []).bind fun r1 =>
  some ([.p (.bool ((r1.1.headD .undef).pv.toBool))], []) := by kernel_rfl
/- skylanternref06.Distance2 -/
theorem e45 (C : CallF) (a_0 : Int) (a_1 : Int) (a_2 : Int) (b_0 : Int) (b_1 : Int) (b_2 : Int) : acallI tab C 45 [.p (.agg [.int .i64 a_0, .int .i64 a_1, .int .i64 a_2]), .p (.agg [.int .i64 b_0, .int .i64 b_1, .int .i64 b_2])] [] =
  (C 47 [.p (.agg [.int .i64 a_0, .int .i64 a_1, .int .i64 a_2]), .p (.agg [.int .i64 b_0, .int .i64 b_1, .int .i64 b_2])] []).bind fun r1 =>
  (C 47 [.p (.agg [.int .i64 a_0, .int .i64 a_1, .int .i64 a_2]), .p (.agg [.int .i64 b_0, .int .i64 b_1, .int .i64 b_2])] []).bind fun r2 =>
  (C 60 [.p (.agg [.int .i64 (((r1.1.headD .undef).pv.cell 0).toInt), .int .i64 (((r1.1.headD .undef).pv.cell 1).toInt), .int .i64 (((r1.1.headD .undef).pv.cell 2).toInt)]), .p (.agg [.int .i64 (((r2.1.headD .undef).pv.cell 0).toInt), .int .i64 (((r2.1.headD .undef).pv.cell 1).toInt), .int .i64 (((r2.1.headD .undef).pv.cell 2).toInt)])] []).bind fun r3 =>
  some ([.p (.int .i64 ((r3.1.headD .undef).pv.toInt))], []) := by kernel_rfl
/- skylanternref06.Cross -/
def S46_11010_c0 (a_b0 : Int) (a_b1 : Int) (a_b2 : Int) (b_b0 : Int) (b_b1 : Int) (b_b2 : Int) : St := ⟨.undef :: .undef :: (.ptr 2 0 0) :: (.ptr 3 0 0) :: (.ptr 4 0 0) :: (.ptr 5 0 0) :: (.p (.int .i64 0)) :: List.replicate 36 .undef, [(2, .box [.p (.int .i64 a_b0), .p (.int .i64 a_b1), .p (.int .i64 a_b2)]), (3, .box [.p (.int .i64 b_b0), .p (.int .i64 b_b1), .p (.int .i64 b_b2)]), (4, .box [.p (.int .i64 0), .p (.int .i64 0), .p (.int .i64 0)]), (5, .box [.p (.int .i64 0), .p (.int .i64 0), .p (.int .i64 0)])]⟩
def S46_11010_c1 (a_b0 : Int) (a_b1 : Int) (a_b2 : Int) (b_b0 : Int) (b_b1 : Int) (b_b2 : Int) (l_b0 : Int) : St := ⟨.undef :: .undef :: (.ptr 2 0 0) :: (.ptr 3 0 0) :: (.ptr 4 0 0) :: (.ptr 5 0 0) :: (.p (.int .i64 1)) :: List.replicate 36 .undef, [(2, .box [.p (.int .i64 a_b0), .p (.int .i64 a_b1), .p (.int .i64 a_b2)]), (3, .box [.p (.int .i64 b_b0), .p (.int .i64 b_b1), .p (.int .i64 b_b2)]), (4, .box [.p (.int .i64 0), .p (.int .i64 0), .p (.int .i64 0)]), (5, .box [.p (.int .i64 l_b0), .p (.int .i64 0), .p (.int .i64 0)])]⟩
def S46_11010_c2 (a_b0 : Int) (a_b1 : Int) (a_b2 : Int) (b_b0 : Int) (b_b1 : Int) (b_b2 : Int) (l_b0 : Int) (l_b1 : Int) : St := ⟨.undef :: .undef :: (.ptr 2 0 0) :: (.ptr 3 0 0) :: (.ptr 4 0 0) :: (.ptr 5 0 0) :: (.p (.int .i64 2)) :: List.replicate 36 .undef, [(2, .box [.p (.int .i64 a_b0), .p (.int .i64 a_b1), .p (.int .i64 a_b2)]), (3, .box [.p (.int .i64 b_b0), .p (.int .i64 b_b1), .p (.int .i64 b_b2)]), (4, .box [.p (.int .i64 0), .p (.int .i64 0), .p (.int .i64 0)]), (5, .box [.p (.int .i64 l_b0), .p (.int .i64 l_b1), .p (.int .i64 0)])]⟩
def S46_11010_c3 (a_b0 : Int) (a_b1 : Int) (a_b2 : Int) (b_b0 : Int) (b_b1 : Int) (b_b2 : Int) (l_b0 : Int) (l_b1 : Int) (l_b2 : Int) : St := ⟨.undef :: .undef :: (.ptr 2 0 0) :: (.ptr 3 0 0) :: (.ptr 4 0 0) :: (.ptr 5 0 0) :: (.p (.int .i64 3)) :: List.replicate 36 .undef, [(2, .box [.p (.int .i64 a_b0), .p (.int .i64 a_b1), .p (.int .i64 a_b2)]), (3, .box [.p (.int .i64 b_b0), .p (.int .i64 b_b1), .p (.int .i64 b_b2)]), (4, .box [.p (.int .i64 0), .p (.int .i64 0), .p (.int .i64 0)]), (5, .box [.p (.int .i64 l_b0), .p (.int .i64 l_b1), .p (.int .i64 l_b2)])]⟩
theorem e46 (C : CallF) (a_0 : Int) (a_1 : Int) (a_2 : Int) (b_0 : Int) (b_1 : Int) (b_2 : Int) : acallI tab C 46 [.p (.agg [.int .i64 a_0, .int .i64 a_1, .int .i64 a_2]), .p (.agg [.int .i64 b_0, .int .i64 b_1, .int .i64 b_2])] [] =
  L tab C 46 [] [[1, 1, 0, 1, 0]] (S46_11010_c0 a_0 a_1 a_2 b_0 b_1 b_2) := by kernel_rfl
theorem e46_11010_c0 (C : CallF) (a_b0 : Int) (a_b1 : Int) (a_b2 : Int) (b_b0 : Int) (b_b1 : Int) (b_b2 : Int) : R tab C 46 [] [[1, 1, 0, 1, 0]] (S46_11010_c0 a_b0 a_b1 a_b2 b_b0 b_b1 b_b2) =
  (C 54 [.p (.agg [.int .i64 a_b0, .int .i64 a_b1, .int .i64 a_b2]), .p (.int .i64 1)] []).bind fun r1 =>
  (C 54 [.p (.agg [.int .i64 b_b0, .int .i64 b_b1, .int .i64 b_b2]), .p (.int .i64 2)] []).bind fun r2 =>
  (C 54 [.p (.agg [.int .i64 a_b0, .int .i64 a_b1, .int .i64 a_b2]), .p (.int .i64 2)] []).bind fun r3 =>
  (C 54 [.p (.agg [.int .i64 b_b0, .int .i64 b_b1, .int .i64 b_b2]), .p (.int .i64 1)] []).bind fun r4 =>
  L tab C 46 [] [[1, 1, 0, 1, 0]] (S46_11010_c1 a_b0 a_b1 a_b2 b_b0 b_b1 b_b2 (IntKind.i64.wrap ((IntKind.i64.wrap ((r1.1.headD .undef).pv.toInt * (r2.1.headD .undef).pv.toInt)) - (IntKind.i64.wrap ((r3.1.headD .undef).pv.toInt * (r4.1.headD .undef).pv.toInt))))) := by kernel_rfl
theorem e46_11010_c1 (C : CallF) (a_b0 : Int) (a_b1 : Int) (a_b2 : Int) (b_b0 : Int) (b_b1 : Int) (b_b2 : Int) (l_b0 : Int) : R tab C 46 [] [[1, 1, 0, 1, 0]] (S46_11010_c1 a_b0 a_b1 a_b2 b_b0 b_b1 b_b2 l_b0) =
  (C 54 [.p (.agg [.int .i64 a_b0, .int .i64 a_b1, .int .i64 a_b2]), .p (.int .i64 2)] []).bind fun r1 =>
  (C 54 [.p (.agg [.int .i64 b_b0, .int .i64 b_b1, .int .i64 b_b2]), .p (.int .i64 0)] []).bind fun r2 =>
  (C 54 [.p (.agg [.int .i64 a_b0, .int .i64 a_b1, .int .i64 a_b2]), .p (.int .i64 0)] []).bind fun r3 =>
  (C 54 [.p (.agg [.int .i64 b_b0, .int .i64 b_b1, .int .i64 b_b2]), .p (.int .i64 2)] []).bind fun r4 =>
  L tab C 46 [] [[1, 1, 0, 1, 0]] (S46_11010_c2 a_b0 a_b1 a_b2 b_b0 b_b1 b_b2 l_b0 (IntKind.i64.wrap ((IntKind.i64.wrap ((r1.1.headD .undef).pv.toInt * (r2.1.headD .undef).pv.toInt)) - (IntKind.i64.wrap ((r3.1.headD .undef).pv.toInt * (r4.1.headD .undef).pv.toInt))))) := by kernel_rfl
theorem e46_11010_c2 (C : CallF) (a_b0 : Int) (a_b1 : Int) (a_b2 : Int) (b_b0 : Int) (b_b1 : Int) (b_b2 : Int) (l_b0 : Int) (l_b1 : Int) : R tab C 46 [] [[1, 1, 0, 1, 0]] (S46_11010_c2 a_b0 a_b1 a_b2 b_b0 b_b1 b_b2 l_b0 l_b1) =
  (C 54 [.p (.agg [.int .i64 a_b0, .int .i64 a_b1, .int .i64 a_b2]), .p (.int .i64 0)] []).bind fun r1 =>
  (C 54 [.p (.agg [.int .i64 b_b0, .int .i64 b_b1, .int .i64 b_b2]), .p (.int .i64 1)] []).bind fun r2 =>
  (C 54 [.p (.agg [.int .i64 a_b0, .int .i64 a_b1, .int .i64 a_b2]), .p (.int .i64 1)] []).bind fun r3 =>
  (C 54 [.p (.agg [.int .i64 b_b0, .int .i64 b_b1, .int .i64 b_b2]), .p (.int .i64 0)] []).bind fun r4 =>
  L tab C 46 [] [[1, 1, 0, 1, 0]] (S46_11010_c3 a_b0 a_b1 a_b2 b_b0 b_b1 b_b2 l_b0 l_b1 (IntKind.i64.wrap ((IntKind.i64.wrap ((r1.1.headD .undef).pv.toInt * (r2.1.headD .undef).pv.toInt)) - (IntKind.i64.wrap ((r3.1.headD .undef).pv.toInt * (r4.1.headD .undef).pv.toInt))))) := by kernel_rfl
theorem e46_11010_c3 (C : CallF) (a_b0 : Int) (a_b1 : Int) (a_b2 : Int) (b_b0 : Int) (b_b1 : Int) (b_b2 : Int) (l_b0 : Int) (l_b1 : Int) (l_b2 : Int) : R tab C 46 [] [[1, 1, 0, 1, 0]] (S46_11010_c3 a_b0 a_b1 a_b2 b_b0 b_b1 b_b2 l_b0 l_b1 l_b2) =
  some ([.p (.agg [.int .i64 l_b0, .int .i64 l_b1, .int .i64 l_b2])], []) := by kernel_rfl
/- skylanternref06.Sub -/
theorem e47 (C : CallF) (a_0 : Int) (a_1 : Int) (a_2 : Int) (b_0 : Int) (b_1 : Int) (b_2 : Int) : acallI tab C 47 [.p (.agg [.int .i64 a_0, .int .i64 a_1, .int .i64 a_2]), .p (.agg [.int .i64 b_0, .int .i64 b_1, .int .i64 b_2])] [] =
  (C 28 [.p (.agg [.int .i64 b_0, .int .i64 b_1, .int .i64 b_2])] []).bind fun r1 =>
  (C 61 [.p (.agg [.int .i64 a_0, .int .i64 a_1, .int .i64 a_2]), .p (.agg [.int .i64 (((r1.1.headD .undef).pv.cell 0).toInt), .int .i64 (((r1.1.headD .undef).pv.cell 1).toInt), .int .i64 (((r1.1.headD .undef).pv.cell 2).toInt)])] []).bind fun r2 =>
  some ([.p (.agg [.int .i64 (((r2.1.headD .undef).pv.cell 0).toInt), .int .i64 (((r2.1.headD .undef).pv.cell 1).toInt), .int .i64 (((r2.1.headD .undef).pv.cell 2).toInt)])], []) := by kernel_rfl
/- slices.Concat[[]api.Vec,api.Vec] -/
def S48_11010 (slices' : List PV) (size' : Int) (t9' : List PV) (t10' : Int) (t11' : Int) : St := ⟨(.p (.list false [.slice true [.int .i64, .int .i64, .int .i64]] slices')) :: .undef :: .undef :: (.p (.int .i64 size')) :: .undef :: .undef :: .undef :: .undef :: .undef :: (.p (.list false [.slice true [.int .i64, .int .i64, .int .i64]] t9')) :: (.p (.int .i64 t10')) :: (.p (.int .i64 t11')) :: List.replicate 24 .undef, []⟩
def S48_1111010 (newslice_o : Nat) (newslice_l : Nat) (t25' : List PV) (t26' : Int) (t27' : Int) (newslice_b : List PV) : St := ⟨.undef :: .undef :: .undef :: .undef :: .undef :: .undef :: (.slice 6 3 newslice_o newslice_l) :: .undef :: .undef :: .undef :: .undef :: .undef :: .undef :: .undef :: .undef :: .undef :: .undef :: .undef :: .undef :: .undef :: .undef :: .undef :: .undef :: .undef :: .undef :: (.p (.list false [.slice true [.int .i64, .int .i64, .int .i64]] t25')) :: (.p (.int .i64 t26')) :: (.p (.int .i64 t27')) :: List.replicate 8 .undef, [(6, .arr true [.int .i64, .int .i64, .int .i64] newslice_b)]⟩
theorem e48 (C : CallF) (slices : List PV) : acallI tab C 48 [.p (.list false [.slice true [.int .i64, .int .i64, .int .i64]] slices)] [] =
  L tab C 48 [] [[1, 1, 0, 1, 0]] (S48_11010 slices 0 slices ((slices.length : Nat) : Int) 0) := by kernel_rfl
theorem e48_11010 (C : CallF) (slices' : List PV) (size' : Int) (t9' : List PV) (t10' : Int) (t11' : Int) : R tab C 48 [] [[1, 1, 0, 1, 0]] (S48_11010 slices' size' t9' t10' t11') =
  bif (decide (t11' < t10')) then
    bif ((decide ((0 : Int) ≤ t11')) && (decide (t11' < ((t9'.length : Nat) : Int)))) then bif (decide ((IntKind.i64.wrap (size' + (((((t9'.getD t11'.toNat .nil).cell 0).toList).length : Nat) : Int))) < (0 : Int))) then
      none
    else
      L tab C 48 [] [[1, 1, 0, 1, 0]] (S48_11010 slices' (IntKind.i64.wrap (size' + (((((t9'.getD t11'.toNat .nil).cell 0).toList).length : Nat) : Int))) t9' t10' (IntKind.i64.wrap (t11' + (1 : Int)))) else none
  else
    (C 62 [.p (.nil), .p (.int .i64 size')] []).bind fun r1 =>
    L tab C 48 [] [[1, 1, 1, 1, 0, 1, 0]] (S48_1111010 0 ((r1.1.headD .undef).freshList.length) slices' ((slices'.length : Nat) : Int) 0 ((r1.1.headD .undef).freshList)) := by kernel_rfl
theorem e48_1111010 (C : CallF) (newslice_o : Nat) (newslice_l : Nat) (t25' : List PV) (t26' : Int) (t27' : Int) (newslice_b : List PV) : R tab C 48 [] [[1, 1, 1, 1, 0, 1, 0]] (S48_1111010 newslice_o newslice_l t25' t26' t27' newslice_b) =
  bif (decide (t27' < t26')) then
    bif ((decide ((0 : Int) ≤ t27')) && (decide (t27' < ((t25'.length : Nat) : Int)))) then bif (decide ((newslice_l + (((t25'.getD t27'.toNat .nil).cell 0).toList).length) ≤ 2147483648)) then L tab C 48 [] [[1, 1, 1, 1, 0, 1, 0]] (S48_1111010 0 (newslice_l + (((t25'.getD t27'.toNat .nil).cell 0).toList).length) t25' t26' (IntKind.i64.wrap (t27' + (1 : Int))) (((newslice_b.drop newslice_o).take newslice_l) ++ (((t25'.getD t27'.toNat .nil).cell 0).toList))) else none else none
  else
    some ([.fresh true [.int .i64, .int .i64, .int .i64] ((newslice_b.drop newslice_o).take newslice_l)], []) := by kernel_rfl
/- vector.inside -/
def S49_1010 (most' : Int) (t7' : List PV) (t8' : Int) (t9' : Int) : St := ⟨(.p (.int .i64 most')) :: .undef :: .undef :: .undef :: .undef :: .undef :: .undef :: (.p (.list false [.int .i64] t7')) :: (.p (.int .i64 t8')) :: (.p (.int .i64 t9')) :: List.replicate 13 .undef, []⟩
theorem e49 (C : CallF) (most : Int) (numbers : List PV) : acallI tab C 49 [.p (.int .i64 most), .p (.list false [.int .i64] numbers)] [] =
  L tab C 49 [] [[1, 0, 1, 0]] (S49_1010 most numbers ((numbers.length : Nat) : Int) 0) := by kernel_rfl
theorem e49_1010 (C : CallF) (most' : Int) (t7' : List PV) (t8' : Int) (t9' : Int) : R tab C 49 [] [[1, 0, 1, 0]] (S49_1010 most' t7' t8' t9') =
  bif (decide (t9' < t8')) then
    bif ((decide ((0 : Int) ≤ t9')) && (decide (t9' < ((t7'.length : Nat) : Int)))) then bif (decide (((t7'.getD t9'.toNat .nil).cell 0).toInt < (IntKind.i64.wrap (0 - most')))) then
      some ([.p (.bool false)], [])
    else
      bif (decide (((t7'.getD t9'.toNat .nil).cell 0).toInt > most')) then
        some ([.p (.bool false)], [])
      else
        L tab C 49 [] [[1, 0, 1, 0]] (S49_1010 most' t7' t8' (IntKind.i64.wrap (t9' + (1 : Int)))) else none
  else
    some ([.p (.bool true)], []) := by kernel_rfl
/- vector.parts -/
theorem e52 (C : CallF) (v_0 : Int) (v_1 : Int) (v_2 : Int) : acallI tab C 52 [.p (.agg [.int .i64 v_0, .int .i64 v_1, .int .i64 v_2])] [] =
  some ([.p (.agg [.int .i64 v_0, .int .i64 v_1, .int .i64 v_2])], []) := by kernel_rfl
/- slices.Compare[[]int,int] -/
def S53_1010 (s1' : List PV) (s2' : List PV) (t9' : List PV) (t10' : Int) (t11' : Int) : St := ⟨(.p (.list false [.int .i64] s1')) :: (.p (.list false [.int .i64] s2')) :: .undef :: .undef :: .undef :: .undef :: .undef :: .undef :: .undef :: (.p (.list false [.int .i64] t9')) :: (.p (.int .i64 t10')) :: (.p (.int .i64 t11')) :: List.replicate 24 .undef, []⟩
theorem e53 (C : CallF) (s1 : List PV) (s2 : List PV) : acallI tab C 53 [.p (.list false [.int .i64] s1), .p (.list false [.int .i64] s2)] [] =
  L tab C 53 [] [[1, 0, 1, 0]] (S53_1010 s1 s2 s1 ((s1.length : Nat) : Int) 0) := by kernel_rfl
theorem e53_1010 (C : CallF) (s1' : List PV) (s2' : List PV) (t9' : List PV) (t10' : Int) (t11' : Int) : R tab C 53 [] [[1, 0, 1, 0]] (S53_1010 s1' s2' t9' t10' t11') =
  bif (decide (t11' < t10')) then
    bif ((decide ((0 : Int) ≤ t11')) && (decide (t11' < ((t9'.length : Nat) : Int)))) then bif (decide (t11' ≥ ((s2'.length : Nat) : Int))) then
      some ([.p (.int .i64 1)], [])
    else
      bif ((decide ((0 : Int) ≤ t11')) && (decide (t11' < ((s2'.length : Nat) : Int)))) then (C 73 [.p (.int .i64 (((t9'.getD t11'.toNat .nil).cell 0).toInt)), .p (.int .i64 (((s2'.getD t11'.toNat .nil).cell 0).toInt))] []).bind fun r1 =>
      bif ((r1.1.headD .undef).pv.toInt != (0 : Int)) then
        some ([.p (.int .i64 ((r1.1.headD .undef).pv.toInt))], [])
      else
        L tab C 53 [] [[1, 0, 1, 0]] (S53_1010 s1' s2' t9' t10' (IntKind.i64.wrap (t11' + (1 : Int)))) else none else none
  else
    bif (decide (((s1'.length : Nat) : Int) < ((s2'.length : Nat) : Int))) then
      some ([.p (.int .i64 (-1))], [])
    else
      some ([.p (.int .i64 0)], []) := by kernel_rfl
/- skylanternref06.part -/
theorem e54 (C : CallF) (v_0 : Int) (v_1 : Int) (v_2 : Int) (i : Int) : acallI tab C 54 [.p (.agg [.int .i64 v_0, .int .i64 v_1, .int .i64 v_2]), .p (.int .i64 i)] [] =
  bif (i == (0 : Int)) then
    some ([.p (.int .i64 v_0)], [])
  else
    bif (i == (1 : Int)) then
      some ([.p (.int .i64 v_1)], [])
    else
      some ([.p (.int .i64 v_2)], []) := by kernel_rfl
/- skylanternref07.in -/
theorem e55 (C : CallF) (a_0 : Int) (a_1 : Int) (a_2 : Int) (b_0 : Int) (b_1 : Int) (b_2 : Int) (c_0 : Int) (c_1 : Int) (c_2 : Int) (p_0 : Int) (p_1 : Int) (p_2 : Int) : acallI tab C 55 [.p (.agg [.int .i64 a_0, .int .i64 a_1, .int .i64 a_2]), .p (.agg [.int .i64 b_0, .int .i64 b_1, .int .i64 b_2]), .p (.agg [.int .i64 c_0, .int .i64 c_1, .int .i64 c_2]), .p (.agg [.int .i64 p_0, .int .i64 p_1, .int .i64 p_2])] [] =
  (C 37 [.p (.agg [.int .i64 a_0, .int .i64 a_1, .int .i64 a_2]), .p (.agg [.int .i64 b_0, .int .i64 b_1, .int .i64 b_2]), .p (.agg [.int .i64 p_0, .int .i64 p_1, .int .i64 p_2])] []).bind fun r1 =>
  (C 37 [.p (.agg [.int .i64 b_0, .int .i64 b_1, .int .i64 b_2]), .p (.agg [.int .i64 c_0, .int .i64 c_1, .int .i64 c_2]), .p (.agg [.int .i64 p_0, .int .i64 p_1, .int .i64 p_2])] []).bind fun r2 =>
  (C 37 [.p (.agg [.int .i64 c_0, .int .i64 c_1, .int .i64 c_2]), .p (.agg [.int .i64 a_0, .int .i64 a_1, .int .i64 a_2]), .p (.agg [.int .i64 p_0, .int .i64 p_1, .int .i64 p_2])] []).bind fun r3 =>
  (C 42 [.p (.agg [.int .i64 a_0, .int .i64 a_1, .int .i64 a_2]), .p (.agg [.int .i64 b_0, .int .i64 b_1, .int .i64 b_2]), .p (.agg [.int .i64 p_0, .int .i64 p_1, .int .i64 p_2])] []).bind fun r4 =>
  bif (r4.1.headD .undef).pv.toBool then
    some ([.p (.bool true)], [])
  else
    (C 42 [.p (.agg [.int .i64 b_0, .int .i64 b_1, .int .i64 b_2]), .p (.agg [.int .i64 c_0, .int .i64 c_1, .int .i64 c_2]), .p (.agg [.int .i64 p_0, .int .i64 p_1, .int .i64 p_2])] []).bind fun r5 =>
    bif (r5.1.headD .undef).pv.toBool then
      some ([.p (.bool true)], [])
    else
      (C 42 [.p (.agg [.int .i64 c_0, .int .i64 c_1, .int .i64 c_2]), .p (.agg [.int .i64 a_0, .int .i64 a_1, .int .i64 a_2]), .p (.agg [.int .i64 p_0, .int .i64 p_1, .int .i64 p_2])] []).bind fun r6 =>
      bif (r6.1.headD .undef).pv.toBool then
        some ([.p (.bool true)], [])
      else
        bif ((r1.1.headD .undef).pv.toInt != (0 : Int)) then
          bif ((r1.1.headD .undef).pv.toInt == (r2.1.headD .undef).pv.toInt) then
            some ([.p (.bool ((r2.1.headD .undef).pv.toInt == (r3.1.headD .undef).pv.toInt))], [])
          else
            some ([.p (.bool false)], [])
        else
          some ([.p (.bool false)], []) := by kernel_rfl
/- vector.Turn -/
theorem e56 (C : CallF) (a_0 : Int) (a_1 : Int) (a_2 : Int) (b_0 : Int) (b_1 : Int) (b_2 : Int) (c_0 : Int) (c_1 : Int) (c_2 : Int) : acallI tab C 56 [.p (.agg [.int .i64 a_0, .int .i64 a_1, .int .i64 a_2]), .p (.agg [.int .i64 b_0, .int .i64 b_1, .int .i64 b_2]), .p (.agg [.int .i64 c_0, .int .i64 c_1, .int .i64 c_2])] [] =
  (C 44 [.p (.agg [.int .i64 a_0, .int .i64 a_1, .int .i64 a_2])] []).bind fun r1 =>
  bif (!(r1.1.headD .undef).pv.toBool) then
    some ([.p (.int .i64 0), .p (.int .i64 2)], [])
  else
    (C 44 [.p (.agg [.int .i64 b_0, .int .i64 b_1, .int .i64 b_2])] []).bind fun r2 =>
    bif (!(r2.1.headD .undef).pv.toBool) then
      some ([.p (.int .i64 0), .p (.int .i64 2)], [])
    else
      (C 44 [.p (.agg [.int .i64 c_0, .int .i64 c_1, .int .i64 c_2])] []).bind fun r3 =>
      bif (!(r3.1.headD .undef).pv.toBool) then
        some ([.p (.int .i64 0), .p (.int .i64 2)], [])
      else
        (C 74 [.p (.int .i64 (IntKind.i64.wrap ((IntKind.i64.wrap ((IntKind.i64.wrap (b_0 - a_0)) * (IntKind.i64.wrap (c_1 - a_1)))) - (IntKind.i64.wrap ((IntKind.i64.wrap (b_1 - a_1)) * (IntKind.i64.wrap (c_0 - a_0)))))))] []).bind fun r4 =>
        some ([.p (.int .i64 ((r4.1.headD .undef).pv.toInt)), .p (.int .i64 0)], []) := by kernel_rfl
/- vector.join -/
theorem e57 (C : CallF) (a_0 : Int) (a_1 : Int) (a_2 : Int) (b_0 : Int) (b_1 : Int) (b_2 : Int) : acallI tab C 57 [.p (.agg [.int .i64 a_0, .int .i64 a_1, .int .i64 a_2]), .p (.agg [.int .i64 b_0, .int .i64 b_1, .int .i64 b_2]), .p (.fn 58 [])] [] =
  (C 58 [.p (.int .i64 a_0), .p (.int .i64 b_0)] []).bind fun r1 =>
  (C 58 [.p (.int .i64 a_1), .p (.int .i64 b_1)] []).bind fun r2 =>
  (C 58 [.p (.int .i64 a_2), .p (.int .i64 b_2)] []).bind fun r3 =>
  some ([.p (.agg [.int .i64 ((r1.1.headD .undef).pv.toInt), .int .i64 ((r2.1.headD .undef).pv.toInt), .int .i64 ((r3.1.headD .undef).pv.toInt)])], []) := by kernel_rfl
/- vector.Distance2$1 -/
theorem e58 (C : CallF) (x : Int) (y : Int) : acallI tab C 58 [.p (.int .i64 x), .p (.int .i64 y)] [] =
  some ([.p (.int .i64 (IntKind.i64.wrap (x - y)))], []) := by kernel_rfl
/- vector.dot -/
theorem e59 (C : CallF) (a_0 : Int) (a_1 : Int) (a_2 : Int) (b_0 : Int) (b_1 : Int) (b_2 : Int) : acallI tab C 59 [.p (.agg [.int .i64 a_0, .int .i64 a_1, .int .i64 a_2]), .p (.agg [.int .i64 b_0, .int .i64 b_1, .int .i64 b_2])] [] =
  some ([.p (.int .i64 (IntKind.i64.wrap ((IntKind.i64.wrap ((IntKind.i64.wrap (a_0 * b_0)) + (IntKind.i64.wrap (a_1 * b_1)))) + (IntKind.i64.wrap (a_2 * b_2)))))], []) := by kernel_rfl
/- skylanternref06.Dot -/
def S60_11010 (sum' : Int) (i' : Int) (a_b0 : Int) (a_b1 : Int) (a_b2 : Int) (b_b0 : Int) (b_b1 : Int) (b_b2 : Int) : St := ⟨.undef :: .undef :: (.ptr 2 0 0) :: (.ptr 3 0 0) :: .undef :: (.p (.int .i64 sum')) :: (.p (.int .i64 i')) :: List.replicate 14 .undef, [(2, .box [.p (.int .i64 a_b0), .p (.int .i64 a_b1), .p (.int .i64 a_b2)]), (3, .box [.p (.int .i64 b_b0), .p (.int .i64 b_b1), .p (.int .i64 b_b2)])]⟩
theorem e60 (C : CallF) (a_0 : Int) (a_1 : Int) (a_2 : Int) (b_0 : Int) (b_1 : Int) (b_2 : Int) : acallI tab C 60 [.p (.agg [.int .i64 a_0, .int .i64 a_1, .int .i64 a_2]), .p (.agg [.int .i64 b_0, .int .i64 b_1, .int .i64 b_2])] [] =
  L tab C 60 [] [[1, 1, 0, 1, 0]] (S60_11010 0 0 a_0 a_1 a_2 b_0 b_1 b_2) := by kernel_rfl
theorem e60_11010 (C : CallF) (sum' : Int) (i' : Int) (a_b0 : Int) (a_b1 : Int) (a_b2 : Int) (b_b0 : Int) (b_b1 : Int) (b_b2 : Int) : R tab C 60 [] [[1, 1, 0, 1, 0]] (S60_11010 sum' i' a_b0 a_b1 a_b2 b_b0 b_b1 b_b2) =
  bif (decide (i' < (3 : Int))) then
    (C 54 [.p (.agg [.int .i64 a_b0, .int .i64 a_b1, .int .i64 a_b2]), .p (.int .i64 i')] []).bind fun r1 =>
    (C 54 [.p (.agg [.int .i64 b_b0, .int .i64 b_b1, .int .i64 b_b2]), .p (.int .i64 i')] []).bind fun r2 =>
    L tab C 60 [] [[1, 1, 0, 1, 0]] (S60_11010 (IntKind.i64.wrap (sum' + (IntKind.i64.wrap ((r1.1.headD .undef).pv.toInt * (r2.1.headD .undef).pv.toInt)))) (IntKind.i64.wrap (i' + (1 : Int))) a_b0 a_b1 a_b2 b_b0 b_b1 b_b2)
  else
    some ([.p (.int .i64 sum')], []) := by kernel_rfl
/- skylanternref06.Add -/
theorem e61 (C : CallF) (a_0 : Int) (a_1 : Int) (a_2 : Int) (b_0 : Int) (b_1 : Int) (b_2 : Int) : acallI tab C 61 [.p (.agg [.int .i64 a_0, .int .i64 a_1, .int .i64 a_2]), .p (.agg [.int .i64 b_0, .int .i64 b_1, .int .i64 b_2])] [] =
  some ([.p (.agg [.int .i64 (IntKind.i64.wrap (a_0 + b_0)), .int .i64 (IntKind.i64.wrap (a_1 + b_1)), .int .i64 (IntKind.i64.wrap (a_2 + b_2))])], []) := by kernel_rfl
/- slices.Grow[[]api.Vec,api.Vec] -/
theorem e62 (C : CallF) (n_ : Int) : acallI tab C 62 [.p (.nil), .p (.int .i64 n_)] [] =
  bif (decide (n_ < (0 : Int))) then
    none
  else
    bif (decide ((IntKind.i64.wrap (n_ - (0 : Int))) > (0 : Int))) then
      bif ((decide ((0 : Int) ≤ (IntKind.i64.wrap (n_ - (0 : Int))))) && (decide ((IntKind.i64.wrap (n_ - (0 : Int))) ≤ (2147483648 : Int)))) then bif (decide ((IntKind.i64.wrap (n_ - (0 : Int))).toNat ≤ 2147483648)) then bif ((decide ((0 : Int) ≤ (((IntKind.i64.wrap (n_ - (0 : Int))).toNat : Nat) : Int))) && (decide ((((IntKind.i64.wrap (n_ - (0 : Int))).toNat : Nat) : Int) ≤ (((IntKind.i64.wrap (n_ - (0 : Int))).toNat : Nat) : Int)))) then some ([.fresh true [.int .i64, .int .i64, .int .i64] (((List.replicate ((IntKind.i64.wrap (n_ - (0 : Int))).toNat) (PV.agg [.int .i64 0, .int .i64 0, .int .i64 0])).drop 0).take 0)], []) else none else none else none
    else
      some ([.fresh true [.int .i64, .int .i64, .int .i64] []], []) := by kernel_rfl
/- cmp.Compare[int] -/
theorem e73 (C : CallF) (x : Int) (y : Int) : acallI tab C 73 [.p (.int .i64 x), .p (.int .i64 y)] [] =
  (C 80 [.p (.int .i64 x)] []).bind fun r1 =>
  (C 80 [.p (.int .i64 y)] []).bind fun r2 =>
  bif (r1.1.headD .undef).pv.toBool then
    bif (r2.1.headD .undef).pv.toBool then
      some ([.p (.int .i64 0)], [])
    else
      some ([.p (.int .i64 (-1))], [])
  else
    bif (r2.1.headD .undef).pv.toBool then
      some ([.p (.int .i64 1)], [])
    else
      bif (decide (x < y)) then
        some ([.p (.int .i64 (-1))], [])
      else
        bif (decide (x > y)) then
          some ([.p (.int .i64 1)], [])
        else
          some ([.p (.int .i64 0)], []) := by kernel_rfl
/- vector.sign -/
theorem e74 (C : CallF) (n_ : Int) : acallI tab C 74 [.p (.int .i64 n_)] [] =
  bif (decide (n_ < (0 : Int))) then
    some ([.p (.int .i64 (-1))], [])
  else
    bif (decide (n_ > (0 : Int))) then
      some ([.p (.int .i64 1)], [])
    else
      some ([.p (.int .i64 0)], []) := by kernel_rfl
/- cmp.isNaN[int] -/
theorem e80 (C : CallF) (x : Int) : acallI tab C 80 [.p (.int .i64 x)] [] =
  some ([.p (.bool (x != x))], []) := by kernel_rfl
end Go.Skm.Hull
