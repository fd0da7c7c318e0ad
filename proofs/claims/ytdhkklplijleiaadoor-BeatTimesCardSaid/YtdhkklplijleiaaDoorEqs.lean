/-
  What the machine does in each function of this program, and in each round of each loop; no condition.
-/
import Derived.Test.YtdhkklplijleiaaDoorSkmD
import Derived.Test.YtdhkklplijleiaaDoorTab
import Derived.KernelRfl
set_option maxRecDepth 100000
namespace Go.Skm.Beat
open Go Go.Skm
/- skylanternlaw27.BeatValids -/
theorem e3 (C : CallF) (l : List PV) (n_ : Int) : acallI tab C 3 [.p (.list true [.int .i64, .int .i64] l), .p (.int .i64 n_)] [] =
  bif (decide (((l.length : Nat) : Int) > (70 : Int))) then
    (C 11 [] []).bind fun r1 =>
    some ([.p (.bool ((r1.1.headD .undef).pv.toBool))], [])
  else
    (C 12 [.p (.list true [.int .i64, .int .i64] l)] []).bind fun r2 =>
    (C 13 [.p (.list true [.int .i64, .int .i64] l)] []).bind fun r3 =>
    bif (!((r2.1.headD .undef).pv.toBool == (r3.1.headD .undef).pv.toBool)) then
      some ([.p (.bool false)], [])
    else
      (C 13 [.p (.list true [.int .i64, .int .i64] l)] []).bind fun r4 =>
      bif (r4.1.headD .undef).pv.toBool then
        (C 11 [] []).bind fun r5 =>
        some ([.p (.bool ((r5.1.headD .undef).pv.toBool))], [])
      else
        (C 14 [.p (.list true [.int .i64, .int .i64] l), .p (.int .i64 n_)] []).bind fun r6 =>
        (C 15 [.p (.list true [.int .i64, .int .i64] l), .p (.int .i64 n_)] []).bind fun r7 =>
        (C 16 [.p (.list true [.int .i64, .int .i64] l), .p (.int .i64 n_)] []).bind fun r8 =>
        (C 17 [.p (.list true [.int .i64, .int .i64] l), .p (.int .i64 n_), .p (.int .i64 n_)] []).bind fun r9 =>
        bif ((IntKind.i64.wrap ((IntKind.i64.wrap ((IntKind.i64.wrap ((r6.1.headD .undef).pv.toInt + (r7.1.headD .undef).pv.toInt)) + (r8.1.headD .undef).pv.toInt)) + (r9.1.headD .undef).pv.toInt)) == (0 : Int)) then
          bif ((r6.1.tail.headD .undef).pv.toInt == (2 : Int)) then
            bif ((r7.1.tail.headD .undef).pv.toInt == (2 : Int)) then
              bif ((r8.1.tail.headD .undef).pv.toInt == (2 : Int)) then
                bif ((r9.1.tail.headD .undef).pv.toInt == (2 : Int)) then
                  (C 11 [] []).bind fun r10 =>
                  some ([.p (.bool ((r10.1.headD .undef).pv.toBool))], [])
                else
                  some ([.p (.bool false)], [])
              else
                some ([.p (.bool false)], [])
            else
              some ([.p (.bool false)], [])
          else
            some ([.p (.bool false)], [])
        else
          some ([.p (.bool false)], []) := by kernel_rfl
/- skylanternlaw27.BeatTimes -/
def S4_1111111010 (l' : List PV) (own_o : Nat) (own_l : Nat) (a' : Int) (e_' : Int) (b' : Int) (f' : Int) (c' : Int) (g' : Int) (d' : Int) (h' : Int) (i' : Int) (own_b : List PV) : St := ⟨(.p (.list true [.int .i64, .int .i64] l')) :: .undef :: .undef :: .undef :: .undef :: (.slice 5 2 own_o own_l) :: (.p (.int .i64 a')) :: (.p (.int .i64 e_')) :: (.p (.int .i64 b')) :: (.p (.int .i64 f')) :: (.p (.int .i64 c')) :: (.p (.int .i64 g')) :: (.p (.int .i64 d')) :: (.p (.int .i64 h')) :: (.p (.int .i64 i')) :: List.replicate 66 .undef, [(5, .arr true [.int .i64, .int .i64] own_b)]⟩
theorem e4 (C : CallF) (l : List PV) (tick : Int) : acallI tab C 4 [.p (.list true [.int .i64, .int .i64] l), .p (.int .i64 tick)] [] =
  bif (decide (((l.length : Nat) : Int) > (70 : Int))) then
    (C 11 [] []).bind fun r1 =>
    some ([.p (.bool ((r1.1.headD .undef).pv.toBool))], [])
  else
    bif (decide (l.length ≤ 2147483648)) then (C 14 [.p (.list true [.int .i64, .int .i64] ((l.drop 0).take l.length)), .p (.int .i64 tick)] []).bind fun r2 =>
    (C 18 [.p (.list true [.int .i64, .int .i64] l), .p (.int .i64 tick)] []).bind fun r3 =>
    (C 15 [.p (.list true [.int .i64, .int .i64] ((l.drop 0).take l.length)), .p (.int .i64 tick)] []).bind fun r4 =>
    (C 19 [.p (.list true [.int .i64, .int .i64] l), .p (.int .i64 tick)] []).bind fun r5 =>
    L tab C 4 [] [.lp [1, 1, 1, 1, 1, 1, 1, 0, 1, 0]] (S4_1111111010 l 0 l.length ((r2.1.headD .undef).pv.toInt) ((r2.1.tail.headD .undef).pv.toInt) ((r3.1.headD .undef).pv.toInt) ((r3.1.tail.headD .undef).pv.toInt) ((r4.1.headD .undef).pv.toInt) ((r4.1.tail.headD .undef).pv.toInt) ((r5.1.headD .undef).pv.toInt) ((r5.1.tail.headD .undef).pv.toInt) 0 l) else none := by kernel_rfl
theorem e4_1111111010 (C : CallF) (l' : List PV) (own_o : Nat) (own_l : Nat) (a' : Int) (e_' : Int) (b' : Int) (f' : Int) (c' : Int) (g' : Int) (d' : Int) (h' : Int) (i' : Int) (own_b : List PV) : R tab C 4 [] [.lp [1, 1, 1, 1, 1, 1, 1, 0, 1, 0]] (S4_1111111010 l' own_o own_l a' e_' b' f' c' g' d' h' i' own_b) =
  bif (decide (i' < ((l'.length : Nat) : Int))) then
    bif ((decide ((0 : Int) ≤ i')) && (decide (i' < (own_l : Int)))) then bif ((decide ((0 : Int) ≤ i')) && (decide (i' < ((l'.length : Nat) : Int)))) then bif (!((((own_b.getD (own_o + i'.toNat) .nil).cell 0).toInt == ((l'.getD i'.toNat .nil).cell 0).toInt) && ((((own_b.getD (own_o + i'.toNat) .nil).cell 1).toInt == ((l'.getD i'.toNat .nil).cell 1).toInt) && true))) then
      some ([.p (.bool false)], [])
    else
      L tab C 4 [] [.lp [1, 1, 1, 1, 1, 1, 1, 0, 1, 0]] (S4_1111111010 l' own_o own_l a' e_' b' f' c' g' d' h' (IntKind.i64.wrap (i' + (1 : Int))) own_b) else none else none
  else
    bif (a' == b') then
      bif (e_' == f') then
        bif (c' == d') then
          bif (g' == h') then
            (C 11 [] []).bind fun r1 =>
            some ([.p (.bool ((r1.1.headD .undef).pv.toBool))], [])
          else
            some ([.p (.bool false)], [])
        else
          some ([.p (.bool false)], [])
      else
        some ([.p (.bool false)], [])
    else
      some ([.p (.bool false)], []) := by kernel_rfl
/- skylanternlaw27.BeatTicks -/
theorem e5 (C : CallF) (l : List PV) (time : Int) : acallI tab C 5 [.p (.list true [.int .i64, .int .i64] l), .p (.int .i64 time)] [] =
  bif (decide (((l.length : Nat) : Int) > (70 : Int))) then
    (C 11 [] []).bind fun r1 =>
    some ([.p (.bool ((r1.1.headD .undef).pv.toBool))], [])
  else
    (C 16 [.p (.list true [.int .i64, .int .i64] l), .p (.int .i64 time)] []).bind fun r2 =>
    (C 20 [.p (.list true [.int .i64, .int .i64] l), .p (.int .i64 time)] []).bind fun r3 =>
    bif ((r2.1.headD .undef).pv.toInt == (r3.1.headD .undef).pv.toInt) then
      bif ((r2.1.tail.headD .undef).pv.toInt == (r3.1.tail.headD .undef).pv.toInt) then
        (C 11 [] []).bind fun r4 =>
        some ([.p (.bool ((r4.1.headD .undef).pv.toBool))], [])
      else
        some ([.p (.bool false)], [])
    else
      some ([.p (.bool false)], []) := by kernel_rfl
/- skylanternlaw27.BeatNearest -/
theorem e6 (C : CallF) (l : List PV) (time : Int) (step : Int) : acallI tab C 6 [.p (.list true [.int .i64, .int .i64] l), .p (.int .i64 time), .p (.int .i64 step)] [] =
  bif (decide (((l.length : Nat) : Int) > (70 : Int))) then
    (C 11 [] []).bind fun r1 =>
    some ([.p (.bool ((r1.1.headD .undef).pv.toBool))], [])
  else
    (C 17 [.p (.list true [.int .i64, .int .i64] l), .p (.int .i64 time), .p (.int .i64 step)] []).bind fun r2 =>
    (C 21 [.p (.list true [.int .i64, .int .i64] l), .p (.int .i64 time), .p (.int .i64 step)] []).bind fun r3 =>
    bif ((r2.1.headD .undef).pv.toInt == (r3.1.headD .undef).pv.toInt) then
      bif ((r2.1.tail.headD .undef).pv.toInt == (r3.1.tail.headD .undef).pv.toInt) then
        (C 11 [] []).bind fun r4 =>
        some ([.p (.bool ((r4.1.headD .undef).pv.toBool))], [])
      else
        some ([.p (.bool false)], [])
    else
      some ([.p (.bool false)], []) := by kernel_rfl
/- skylanternlaw27.BeatGrids -/
def S7_1111111010 (own_o : Nat) (own_l : Nat) (seq_c0_r0 : Int) (seq_c1_r0 : List PV) (seq_c2_r0 : Int) (seq_c3_r0 : Int) (i' : Int) (stop_b0 : Int) (b10_b0 : Bool) (own_b : List PV) (b56_b : List PV) (want_b0_o : Nat) (want_b0_l : Nat) : St := ⟨.undef :: .undef :: .undef :: .undef :: .undef :: .undef :: .undef :: .undef :: .undef :: (.ptr 9 0 0) :: (.ptr 10 0 0) :: (.slice 11 2 own_o own_l) :: (.p (.fn 47 [.ref [.int .i64 seq_c0_r0], .ref [.list true [.int .i64, .int .i64] seq_c1_r0], .ref [.int .i64 seq_c2_r0], .ref [.int .i64 seq_c3_r0]])) :: .undef :: (.ptr 14 0 0) :: .undef :: (.p (.int .i64 i')) :: List.replicate 113 .undef, [(9, .box [.p (.int .i64 stop_b0)]), (10, .box [.p (.bool b10_b0)]), (11, .arr true [.int .i64, .int .i64] own_b), (56, .arr true [.int .i64, .int .i64] b56_b), (14, .box [.slice 56 2 want_b0_o want_b0_l])]⟩
def S7_11111111010 (seq_c0_r0 : Int) (seq_c1_r0 : List PV) (seq_c2_r0 : Int) (seq_c3_r0 : Int) (stop_b0 : Int) (b10_b0 : Bool) (b56_b : List PV) (want_b0_o : Nat) (want_b0_l : Nat) (turn_b0 : Int) : St := ⟨.undef :: .undef :: .undef :: .undef :: .undef :: .undef :: .undef :: .undef :: .undef :: (.ptr 9 0 0) :: (.ptr 10 0 0) :: .undef :: (.p (.fn 47 [.ref [.int .i64 seq_c0_r0], .ref [.list true [.int .i64, .int .i64] seq_c1_r0], .ref [.int .i64 seq_c2_r0], .ref [.int .i64 seq_c3_r0]])) :: .undef :: (.ptr 14 0 0) :: .undef :: .undef :: (.ptr 17 0 0) :: List.replicate 112 .undef, [(9, .box [.p (.int .i64 stop_b0)]), (10, .box [.p (.bool b10_b0)]), (56, .arr true [.int .i64, .int .i64] b56_b), (14, .box [.slice 56 2 want_b0_o want_b0_l]), (17, .box [.p (.int .i64 turn_b0)])]⟩
def S7_11111111010_1001010 (seq_c0_r0 : Int) (seq_c1_r0 : List PV) (seq_c2_r0 : Int) (seq_c3_r0 : Int) (t86_c0_r0 : Int) (t86_c1_r0 : List PV) (t86_c2_r0 : Int) (t86_c3_r0 : Int) (stop_b0 : Int) (b10_b0 : Bool) (b56_b : List PV) (want_b0_o : Nat) (want_b0_l : Nat) (turn_b0 : Int) (n_b0 : Int) : St := ⟨.undef :: .undef :: .undef :: .undef :: .undef :: .undef :: .undef :: .undef :: .undef :: (.ptr 9 0 0) :: (.ptr 10 0 0) :: .undef :: (.p (.fn 47 [.ref [.int .i64 seq_c0_r0], .ref [.list true [.int .i64, .int .i64] seq_c1_r0], .ref [.int .i64 seq_c2_r0], .ref [.int .i64 seq_c3_r0]])) :: .undef :: (.ptr 14 0 0) :: .undef :: .undef :: (.ptr 17 0 0) :: (.ptr 18 0 0) :: .undef :: .undef :: .undef :: .undef :: .undef :: .undef :: .undef :: .undef :: .undef :: .undef :: .undef :: .undef :: .undef :: .undef :: .undef :: .undef :: .undef :: .undef :: .undef :: .undef :: .undef :: .undef :: .undef :: .undef :: .undef :: .undef :: .undef :: .undef :: .undef :: .undef :: .undef :: .undef :: .undef :: .undef :: .undef :: .undef :: .undef :: .undef :: .undef :: .undef :: .undef :: .undef :: .undef :: .undef :: .undef :: .undef :: .undef :: .undef :: .undef :: .undef :: .undef :: .undef :: .undef :: .undef :: .undef :: .undef :: .undef :: .undef :: .undef :: .undef :: .undef :: .undef :: .undef :: .undef :: .undef :: .undef :: .undef :: (.p (.fn 47 [.ref [.int .i64 t86_c0_r0], .ref [.list true [.int .i64, .int .i64] t86_c1_r0], .ref [.int .i64 t86_c2_r0], .ref [.int .i64 t86_c3_r0]])) :: List.replicate 43 .undef, [(9, .box [.p (.int .i64 stop_b0)]), (10, .box [.p (.bool b10_b0)]), (56, .arr true [.int .i64, .int .i64] b56_b), (14, .box [.slice 56 2 want_b0_o want_b0_l]), (17, .box [.p (.int .i64 turn_b0)]), (18, .box [.p (.int .i64 n_b0)])]⟩
theorem e7 (C : CallF) (l : List PV) (from_ : Int) (to : Int) (step : Int) (stop : Int) : acallI tab C 7 [.p (.list true [.int .i64, .int .i64] l), .p (.int .i64 from_), .p (.int .i64 to), .p (.int .i64 step), .p (.int .i64 stop)] [] =
  bif (decide (((l.length : Nat) : Int) > (70 : Int))) then
    (C 11 [] []).bind fun r1 =>
    some ([.p (.bool ((r1.1.headD .undef).pv.toBool))], [])
  else
    bif (decide (step ≥ (1 : Int))) then
      bif (decide (step < (100 : Int))) then
        (C 11 [] []).bind fun r2 =>
        some ([.p (.bool ((r2.1.headD .undef).pv.toBool))], [])
      else
        bif (decide (to > (100000 : Int))) then
          bif (decide (to ≤ (3600000 : Int))) then
            (C 11 [] []).bind fun r3 =>
            some ([.p (.bool ((r3.1.headD .undef).pv.toBool))], [])
          else
            bif (decide (l.length ≤ 2147483648)) then (C 22 [.p (.list true [.int .i64, .int .i64] ((l.drop 0).take l.length)), .p (.int .i64 from_), .p (.int .i64 to), .p (.int .i64 step)] []).bind fun r4 =>
            bif (r4.1.headD .undef).pv.isNilF then
              (C 23 [.p (.list true [.int .i64, .int .i64] l), .p (.int .i64 from_), .p (.int .i64 to), .p (.int .i64 step)] []).bind fun r5 =>
              bif ((r4.1.tail.headD .undef).pv.toInt != (r5.1.tail.headD .undef).pv.toInt) then
                some ([.p (.bool false)], [])
              else
                bif (!(true == ((r5.1.tail.headD .undef).pv.toInt != (0 : Int)))) then
                  some ([.p (.bool false)], [])
                else
                  (C 11 [] []).bind fun r6 =>
                  some ([.p (.bool ((r6.1.headD .undef).pv.toBool))], [])
            else
              (C 23 [.p (.list true [.int .i64, .int .i64] l), .p (.int .i64 from_), .p (.int .i64 to), .p (.int .i64 step)] []).bind fun r7 =>
              bif ((r4.1.tail.headD .undef).pv.toInt != (r7.1.tail.headD .undef).pv.toInt) then
                some ([.p (.bool false)], [])
              else
                bif (!(false == ((r7.1.tail.headD .undef).pv.toInt != (0 : Int)))) then
                  some ([.p (.bool false)], [])
                else
                  L tab C 7 [] [.lp [1, 1, 1, 1, 1, 1, 1, 0, 1, 0]] (S7_1111111010 0 l.length ((((r4.1.headD .undef).pv.cap 0).rcell 0).toInt) ((((r4.1.headD .undef).pv.cap 1).rcell 0).toList) ((((r4.1.headD .undef).pv.cap 2).rcell 0).toInt) ((((r4.1.headD .undef).pv.cap 3).rcell 0).toInt) 0 stop false l ((r7.1.headD .undef).freshList) 0 ((r7.1.headD .undef).freshList.length)) else none
        else
          bif (decide (l.length ≤ 2147483648)) then (C 22 [.p (.list true [.int .i64, .int .i64] ((l.drop 0).take l.length)), .p (.int .i64 from_), .p (.int .i64 to), .p (.int .i64 step)] []).bind fun r8 =>
          bif (r8.1.headD .undef).pv.isNilF then
            (C 23 [.p (.list true [.int .i64, .int .i64] l), .p (.int .i64 from_), .p (.int .i64 to), .p (.int .i64 step)] []).bind fun r9 =>
            bif ((r8.1.tail.headD .undef).pv.toInt != (r9.1.tail.headD .undef).pv.toInt) then
              some ([.p (.bool false)], [])
            else
              bif (!(true == ((r9.1.tail.headD .undef).pv.toInt != (0 : Int)))) then
                some ([.p (.bool false)], [])
              else
                (C 11 [] []).bind fun r10 =>
                some ([.p (.bool ((r10.1.headD .undef).pv.toBool))], [])
          else
            (C 23 [.p (.list true [.int .i64, .int .i64] l), .p (.int .i64 from_), .p (.int .i64 to), .p (.int .i64 step)] []).bind fun r11 =>
            bif ((r8.1.tail.headD .undef).pv.toInt != (r11.1.tail.headD .undef).pv.toInt) then
              some ([.p (.bool false)], [])
            else
              bif (!(false == ((r11.1.tail.headD .undef).pv.toInt != (0 : Int)))) then
                some ([.p (.bool false)], [])
              else
                L tab C 7 [] [.lp [1, 1, 1, 1, 1, 1, 1, 0, 1, 0]] (S7_1111111010 0 l.length ((((r8.1.headD .undef).pv.cap 0).rcell 0).toInt) ((((r8.1.headD .undef).pv.cap 1).rcell 0).toList) ((((r8.1.headD .undef).pv.cap 2).rcell 0).toInt) ((((r8.1.headD .undef).pv.cap 3).rcell 0).toInt) 0 stop false l ((r11.1.headD .undef).freshList) 0 ((r11.1.headD .undef).freshList.length)) else none
    else
      bif (decide (to > (100000 : Int))) then
        bif (decide (to ≤ (3600000 : Int))) then
          (C 11 [] []).bind fun r12 =>
          some ([.p (.bool ((r12.1.headD .undef).pv.toBool))], [])
        else
          bif (decide (l.length ≤ 2147483648)) then (C 22 [.p (.list true [.int .i64, .int .i64] ((l.drop 0).take l.length)), .p (.int .i64 from_), .p (.int .i64 to), .p (.int .i64 step)] []).bind fun r13 =>
          bif (r13.1.headD .undef).pv.isNilF then
            (C 23 [.p (.list true [.int .i64, .int .i64] l), .p (.int .i64 from_), .p (.int .i64 to), .p (.int .i64 step)] []).bind fun r14 =>
            bif ((r13.1.tail.headD .undef).pv.toInt != (r14.1.tail.headD .undef).pv.toInt) then
              some ([.p (.bool false)], [])
            else
              bif (!(true == ((r14.1.tail.headD .undef).pv.toInt != (0 : Int)))) then
                some ([.p (.bool false)], [])
              else
                (C 11 [] []).bind fun r15 =>
                some ([.p (.bool ((r15.1.headD .undef).pv.toBool))], [])
          else
            (C 23 [.p (.list true [.int .i64, .int .i64] l), .p (.int .i64 from_), .p (.int .i64 to), .p (.int .i64 step)] []).bind fun r16 =>
            bif ((r13.1.tail.headD .undef).pv.toInt != (r16.1.tail.headD .undef).pv.toInt) then
              some ([.p (.bool false)], [])
            else
              bif (!(false == ((r16.1.tail.headD .undef).pv.toInt != (0 : Int)))) then
                some ([.p (.bool false)], [])
              else
                L tab C 7 [] [.lp [1, 1, 1, 1, 1, 1, 1, 0, 1, 0]] (S7_1111111010 0 l.length ((((r13.1.headD .undef).pv.cap 0).rcell 0).toInt) ((((r13.1.headD .undef).pv.cap 1).rcell 0).toList) ((((r13.1.headD .undef).pv.cap 2).rcell 0).toInt) ((((r13.1.headD .undef).pv.cap 3).rcell 0).toInt) 0 stop false l ((r16.1.headD .undef).freshList) 0 ((r16.1.headD .undef).freshList.length)) else none
      else
        bif (decide (l.length ≤ 2147483648)) then (C 22 [.p (.list true [.int .i64, .int .i64] ((l.drop 0).take l.length)), .p (.int .i64 from_), .p (.int .i64 to), .p (.int .i64 step)] []).bind fun r17 =>
        bif (r17.1.headD .undef).pv.isNilF then
          (C 23 [.p (.list true [.int .i64, .int .i64] l), .p (.int .i64 from_), .p (.int .i64 to), .p (.int .i64 step)] []).bind fun r18 =>
          bif ((r17.1.tail.headD .undef).pv.toInt != (r18.1.tail.headD .undef).pv.toInt) then
            some ([.p (.bool false)], [])
          else
            bif (!(true == ((r18.1.tail.headD .undef).pv.toInt != (0 : Int)))) then
              some ([.p (.bool false)], [])
            else
              (C 11 [] []).bind fun r19 =>
              some ([.p (.bool ((r19.1.headD .undef).pv.toBool))], [])
        else
          (C 23 [.p (.list true [.int .i64, .int .i64] l), .p (.int .i64 from_), .p (.int .i64 to), .p (.int .i64 step)] []).bind fun r20 =>
          bif ((r17.1.tail.headD .undef).pv.toInt != (r20.1.tail.headD .undef).pv.toInt) then
            some ([.p (.bool false)], [])
          else
            bif (!(false == ((r20.1.tail.headD .undef).pv.toInt != (0 : Int)))) then
              some ([.p (.bool false)], [])
            else
              L tab C 7 [] [.lp [1, 1, 1, 1, 1, 1, 1, 0, 1, 0]] (S7_1111111010 0 l.length ((((r17.1.headD .undef).pv.cap 0).rcell 0).toInt) ((((r17.1.headD .undef).pv.cap 1).rcell 0).toList) ((((r17.1.headD .undef).pv.cap 2).rcell 0).toInt) ((((r17.1.headD .undef).pv.cap 3).rcell 0).toInt) 0 stop false l ((r20.1.headD .undef).freshList) 0 ((r20.1.headD .undef).freshList.length)) else none := by kernel_rfl
theorem e7_1111111010 (C : CallF) (own_o : Nat) (own_l : Nat) (seq_c0_r0 : Int) (seq_c1_r0 : List PV) (seq_c2_r0 : Int) (seq_c3_r0 : Int) (i' : Int) (stop_b0 : Int) (b10_b0 : Bool) (own_b : List PV) (b56_b : List PV) (want_b0_o : Nat) (want_b0_l : Nat) : R tab C 7 [] [.lp [1, 1, 1, 1, 1, 1, 1, 0, 1, 0]] (S7_1111111010 own_o own_l seq_c0_r0 seq_c1_r0 seq_c2_r0 seq_c3_r0 i' stop_b0 b10_b0 own_b b56_b want_b0_o want_b0_l) =
  bif (decide (i' < (own_l : Int))) then
    bif ((decide ((0 : Int) ≤ i')) && (decide (i' < (own_l : Int)))) then L tab C 7 [] [.lp [1, 1, 1, 1, 1, 1, 1, 0, 1, 0]] (S7_1111111010 own_o own_l seq_c0_r0 seq_c1_r0 seq_c2_r0 seq_c3_r0 (IntKind.i64.wrap (i' + (1 : Int))) stop_b0 b10_b0 (own_b.set (own_o + i'.toNat) (PV.agg [.int .i64 (((own_b.getD (own_o + i'.toNat) .nil).cell 0).toInt), .int .i64 0])) b56_b want_b0_o want_b0_l) else none
  else
    L tab C 7 [] [.lp [1, 1, 1, 1, 1, 1, 1, 1, 0, 1, 0]] (S7_11111111010 seq_c0_r0 seq_c1_r0 seq_c2_r0 seq_c3_r0 stop_b0 b10_b0 b56_b want_b0_o want_b0_l 0) := by kernel_rfl
theorem e7_11111111010 (C : CallF) (seq_c0_r0 : Int) (seq_c1_r0 : List PV) (seq_c2_r0 : Int) (seq_c3_r0 : Int) (stop_b0 : Int) (b10_b0 : Bool) (b56_b : List PV) (want_b0_o : Nat) (want_b0_l : Nat) (turn_b0 : Int) : R tab C 7 [] [.lp [1, 1, 1, 1, 1, 1, 1, 1, 0, 1, 0]] (S7_11111111010 seq_c0_r0 seq_c1_r0 seq_c2_r0 seq_c3_r0 stop_b0 b10_b0 b56_b want_b0_o want_b0_l turn_b0) =
  bif (decide (turn_b0 < (2 : Int))) then
    (C 47 [.yld, .p (.ref [.int .i64 seq_c0_r0]), .p (.ref [.list true [.int .i64, .int .i64] seq_c1_r0]), .p (.ref [.int .i64 seq_c2_r0]), .p (.ref [.int .i64 seq_c3_r0])] [.log true []]).bind fun r1 =>
    L tab C 7 [] [.lp [1, 1, 1, 1, 1, 1, 1, 1, 0, 1, 0], .rg [1, 0, 0, 1, 0, 1, 0] [(false, [.int .i64]), (false, [.int .i64])] (logOf r1.2)] (S7_11111111010_1001010 seq_c0_r0 seq_c1_r0 seq_c2_r0 seq_c3_r0 seq_c0_r0 seq_c1_r0 seq_c2_r0 seq_c3_r0 stop_b0 b10_b0 b56_b want_b0_o want_b0_l turn_b0 0)
  else
    (C 11 [] []).bind fun r2 =>
    some ([.p (.bool ((r2.1.headD .undef).pv.toBool))], []) := by kernel_rfl
theorem e7_11111111010_1001010_nil (C : CallF) (seq_c0_r0 : Int) (seq_c1_r0 : List PV) (seq_c2_r0 : Int) (seq_c3_r0 : Int) (t86_c0_r0 : Int) (t86_c1_r0 : List PV) (t86_c2_r0 : Int) (t86_c3_r0 : Int) (stop_b0 : Int) (b10_b0 : Bool) (b56_b : List PV) (want_b0_o : Nat) (want_b0_l : Nat) (turn_b0 : Int) (n_b0 : Int) : L tab C 7 [] [.lp [1, 1, 1, 1, 1, 1, 1, 1, 0, 1, 0], .rg [1, 0, 0, 1, 0, 1, 0] [(false, [.int .i64]), (false, [.int .i64])] []] (S7_11111111010_1001010 seq_c0_r0 seq_c1_r0 seq_c2_r0 seq_c3_r0 t86_c0_r0 t86_c1_r0 t86_c2_r0 t86_c3_r0 stop_b0 b10_b0 b56_b want_b0_o want_b0_l turn_b0 n_b0) =
  bif (turn_b0 == (1 : Int)) then
    bif (n_b0 != (want_b0_l : Int)) then
      some ([.p (.bool false)], [])
    else
      L tab C 7 [] [.lp [1, 1, 1, 1, 1, 1, 1, 1, 0, 1, 0]] (S7_11111111010 seq_c0_r0 seq_c1_r0 seq_c2_r0 seq_c3_r0 stop_b0 b10_b0 b56_b want_b0_o want_b0_l (IntKind.i64.wrap (turn_b0 + (1 : Int))))
  else
    L tab C 7 [] [.lp [1, 1, 1, 1, 1, 1, 1, 1, 0, 1, 0]] (S7_11111111010 seq_c0_r0 seq_c1_r0 seq_c2_r0 seq_c3_r0 stop_b0 b10_b0 b56_b want_b0_o want_b0_l (IntKind.i64.wrap (turn_b0 + (1 : Int)))) := by kernel_rfl
theorem e7_11111111010_1001010_cons (C : CallF) (seq_c0_r0 : Int) (seq_c1_r0 : List PV) (seq_c2_r0 : Int) (seq_c3_r0 : Int) (t86_c0_r0 : Int) (t86_c1_r0 : List PV) (t86_c2_r0 : Int) (t86_c3_r0 : Int) (stop_b0 : Int) (b10_b0 : Bool) (b56_b : List PV) (want_b0_o : Nat) (want_b0_l : Nat) (turn_b0 : Int) (n_b0 : Int) (y0 : Int) (y1 : Int) (ys : List PV) : L tab C 7 [] [.lp [1, 1, 1, 1, 1, 1, 1, 1, 0, 1, 0], .rg [1, 0, 0, 1, 0, 1, 0] [(false, [.int .i64]), (false, [.int .i64])] (.agg [.int .i64 y0, .int .i64 y1] :: ys)] (S7_11111111010_1001010 seq_c0_r0 seq_c1_r0 seq_c2_r0 seq_c3_r0 t86_c0_r0 t86_c1_r0 t86_c2_r0 t86_c3_r0 stop_b0 b10_b0 b56_b want_b0_o want_b0_l turn_b0 n_b0) =
  bif (decide (n_b0 ≥ (want_b0_l : Int))) then
    some ([.p (.bool false)], [])
  else
    bif ((decide ((0 : Int) ≤ n_b0)) && (decide (n_b0 < (want_b0_l : Int)))) then bif (y0 != ((b56_b.getD (want_b0_o + n_b0.toNat) .nil).cell 0).toInt) then
      some ([.p (.bool false)], [])
    else
      bif ((decide ((0 : Int) ≤ n_b0)) && (decide (n_b0 < (want_b0_l : Int)))) then bif (y1 != ((b56_b.getD (want_b0_o + n_b0.toNat) .nil).cell 1).toInt) then
        some ([.p (.bool false)], [])
      else
        bif (turn_b0 == (0 : Int)) then
          bif ((IntKind.i64.wrap (n_b0 + (1 : Int))) == stop_b0) then
            bif (turn_b0 == (1 : Int)) then
              bif ((IntKind.i64.wrap (n_b0 + (1 : Int))) != (want_b0_l : Int)) then
                some ([.p (.bool false)], [])
              else
                L tab C 7 [] [.lp [1, 1, 1, 1, 1, 1, 1, 1, 0, 1, 0]] (S7_11111111010 seq_c0_r0 seq_c1_r0 seq_c2_r0 seq_c3_r0 stop_b0 b10_b0 b56_b want_b0_o want_b0_l (IntKind.i64.wrap (turn_b0 + (1 : Int))))
            else
              L tab C 7 [] [.lp [1, 1, 1, 1, 1, 1, 1, 1, 0, 1, 0]] (S7_11111111010 seq_c0_r0 seq_c1_r0 seq_c2_r0 seq_c3_r0 stop_b0 b10_b0 b56_b want_b0_o want_b0_l (IntKind.i64.wrap (turn_b0 + (1 : Int))))
          else
            L tab C 7 [] [.lp [1, 1, 1, 1, 1, 1, 1, 1, 0, 1, 0], .rg [1, 0, 0, 1, 0, 1, 0] [(false, [.int .i64]), (false, [.int .i64])] ys] (S7_11111111010_1001010 seq_c0_r0 seq_c1_r0 seq_c2_r0 seq_c3_r0 t86_c0_r0 t86_c1_r0 t86_c2_r0 t86_c3_r0 stop_b0 b10_b0 b56_b want_b0_o want_b0_l turn_b0 (IntKind.i64.wrap (n_b0 + (1 : Int))))
        else
          L tab C 7 [] [.lp [1, 1, 1, 1, 1, 1, 1, 1, 0, 1, 0], .rg [1, 0, 0, 1, 0, 1, 0] [(false, [.int .i64]), (false, [.int .i64])] ys] (S7_11111111010_1001010 seq_c0_r0 seq_c1_r0 seq_c2_r0 seq_c3_r0 t86_c0_r0 t86_c1_r0 t86_c2_r0 t86_c3_r0 stop_b0 b10_b0 b56_b want_b0_o want_b0_l turn_b0 (IntKind.i64.wrap (n_b0 + (1 : Int)))) else none else none := by kernel_rfl
/- skylanternlaw27.BeatBars -/
theorem e8 (C : CallF) (tick : Int) (beats : Int) (bar : Int) (at_ : Int) (rest : Int) : acallI tab C 8 [.p (.int .i64 tick), .p (.int .i64 beats), .p (.int .i64 bar), .p (.int .i64 at_), .p (.int .i64 rest)] [] =
  (C 24 [.p (.int .i64 tick), .p (.int .i64 beats)] []).bind fun r1 =>
  (C 25 [.p (.int .i64 tick), .p (.int .i64 beats)] []).bind fun r2 =>
  (C 26 [.p (.int .i64 tick), .p (.int .i64 beats)] []).bind fun r3 =>
  (C 27 [.p (.int .i64 tick), .p (.int .i64 beats)] []).bind fun r4 =>
  (C 28 [.p (.int .i64 bar), .p (.int .i64 at_), .p (.int .i64 rest), .p (.int .i64 beats)] []).bind fun r5 =>
  (C 29 [.p (.int .i64 bar), .p (.int .i64 at_), .p (.int .i64 rest), .p (.int .i64 beats)] []).bind fun r6 =>
  bif ((r1.1.headD .undef).pv.toInt == (r2.1.headD .undef).pv.toInt) then
    bif ((r1.1.tail.headD .undef).pv.toInt == (r2.1.tail.headD .undef).pv.toInt) then
      bif ((r1.1.tail.tail.headD .undef).pv.toInt == (r2.1.tail.tail.headD .undef).pv.toInt) then
        bif ((r1.1.tail.tail.tail.headD .undef).pv.toInt == (r2.1.tail.tail.tail.headD .undef).pv.toInt) then
          bif (((r3.1.headD .undef).pv.toStr).toList == ((r4.1.headD .undef).pv.toStr).toList) then
            bif ((r3.1.tail.headD .undef).pv.toInt == (r4.1.tail.headD .undef).pv.toInt) then
              bif ((r5.1.headD .undef).pv.toInt == (r6.1.headD .undef).pv.toInt) then
                bif ((r5.1.tail.headD .undef).pv.toInt == (r6.1.tail.headD .undef).pv.toInt) then
                  (C 11 [] []).bind fun r7 =>
                  some ([.p (.bool ((r7.1.headD .undef).pv.toBool))], [])
                else
                  some ([.p (.bool false)], [])
              else
                some ([.p (.bool false)], [])
            else
              some ([.p (.bool false)], [])
          else
            some ([.p (.bool false)], [])
        else
          some ([.p (.bool false)], [])
      else
        some ([.p (.bool false)], [])
    else
      some ([.p (.bool false)], [])
  else
    some ([.p (.bool false)], []) := by kernel_rfl
/- skylanternlaw27.BeatParses -/
theorem e9 (C : CallF) (s : ByteArray) (beats : Int) : acallI tab C 9 [.p (.str s), .p (.int .i64 beats)] [] =
  bif (decide (((s.size : Nat) : Int) > (100 : Int))) then
    (C 11 [] []).bind fun r1 =>
    some ([.p (.bool ((r1.1.headD .undef).pv.toBool))], [])
  else
    (C 30 [.p (.str s), .p (.int .i64 beats)] []).bind fun r2 =>
    (C 31 [.p (.str s), .p (.int .i64 beats)] []).bind fun r3 =>
    bif ((r2.1.headD .undef).pv.toInt == (r3.1.headD .undef).pv.toInt) then
      bif ((r2.1.tail.headD .undef).pv.toInt == (r3.1.tail.headD .undef).pv.toInt) then
        (C 11 [] []).bind fun r4 =>
        some ([.p (.bool ((r4.1.headD .undef).pv.toBool))], [])
      else
        some ([.p (.bool false)], [])
    else
      some ([.p (.bool false)], []) := by kernel_rfl
/- skylanternlaw27.BeatHolds -/
def S10_1111111111111111010 (l' : List PV) (tick' : Int) (cut' : Int) (a' : Int) (two_o : Nat) (two_l : Nat) (i' : Int) (two_b : List PV) : St := ⟨(.p (.list true [.int .i64, .int .i64] l')) :: (.p (.int .i64 tick')) :: .undef :: .undef :: .undef :: (.p (.int .i64 cut')) :: .undef :: .undef :: .undef :: .undef :: .undef :: .undef :: .undef :: (.p (.int .i64 a')) :: .undef :: .undef :: .undef :: .undef :: .undef :: .undef :: .undef :: .undef :: .undef :: .undef :: .undef :: .undef :: .undef :: .undef :: .undef :: .undef :: .undef :: .undef :: .undef :: .undef :: .undef :: (.slice 35 2 two_o two_l) :: (.p (.int .i64 i')) :: List.replicate 302 .undef, [(35, .arr true [.int .i64, .int .i64] two_b)]⟩
theorem e10 (C : CallF) (l : List PV) (tick : Int) (more : Int) (step : Int) (beats : Int) (cut : Int) : acallI tab C 10 [.p (.list true [.int .i64, .int .i64] l), .p (.int .i64 tick), .p (.int .i64 more), .p (.int .i64 step), .p (.int .i64 beats), .p (.int .i64 cut)] [] =
  bif (decide (((l.length : Nat) : Int) > (60 : Int))) then
    (C 11 [] []).bind fun r1 =>
    some ([.p (.bool ((r1.1.headD .undef).pv.toBool))], [])
  else
    (C 13 [.p (.list true [.int .i64, .int .i64] l)] []).bind fun r2 =>
    bif (!(r2.1.headD .undef).pv.toBool) then
      (C 11 [] []).bind fun r3 =>
      some ([.p (.bool ((r3.1.headD .undef).pv.toBool))], [])
    else
      bif (decide (tick < (0 : Int))) then
        (C 11 [] []).bind fun r4 =>
        some ([.p (.bool ((r4.1.headD .undef).pv.toBool))], [])
      else
        bif (decide (tick > (4194304 : Int))) then
          (C 11 [] []).bind fun r5 =>
          some ([.p (.bool ((r5.1.headD .undef).pv.toBool))], [])
        else
          bif (decide (more < (0 : Int))) then
            (C 11 [] []).bind fun r6 =>
            some ([.p (.bool ((r6.1.headD .undef).pv.toBool))], [])
          else
            bif (decide (more > (IntKind.i64.wrap ((4194304 : Int) - tick)))) then
              (C 11 [] []).bind fun r7 =>
              some ([.p (.bool ((r7.1.headD .undef).pv.toBool))], [])
            else
              bif (decide (beats < (1 : Int))) then
                (C 11 [] []).bind fun r8 =>
                some ([.p (.bool ((r8.1.headD .undef).pv.toBool))], [])
              else
                bif (decide (beats > (32 : Int))) then
                  (C 11 [] []).bind fun r9 =>
                  some ([.p (.bool ((r9.1.headD .undef).pv.toBool))], [])
                else
                  bif (decide (step < (1 : Int))) then
                    (C 11 [] []).bind fun r10 =>
                    some ([.p (.bool ((r10.1.headD .undef).pv.toBool))], [])
                  else
                    bif (decide (step > (4194304 : Int))) then
                      (C 11 [] []).bind fun r11 =>
                      some ([.p (.bool ((r11.1.headD .undef).pv.toBool))], [])
                    else
                      (C 14 [.p (.list true [.int .i64, .int .i64] l), .p (.int .i64 tick)] []).bind fun r12 =>
                      (C 14 [.p (.list true [.int .i64, .int .i64] l), .p (.int .i64 (IntKind.i64.wrap (tick + more)))] []).bind fun r13 =>
                      bif ((r12.1.tail.headD .undef).pv.toInt != (0 : Int)) then
                        some ([.p (.bool false)], [])
                      else
                        bif ((r13.1.tail.headD .undef).pv.toInt != (0 : Int)) then
                          some ([.p (.bool false)], [])
                        else
                          bif (decide ((r13.1.headD .undef).pv.toInt < (r12.1.headD .undef).pv.toInt)) then
                            some ([.p (.bool false)], [])
                          else
                            (C 24 [.p (.int .i64 tick), .p (.int .i64 beats)] []).bind fun r14 =>
                            (C 28 [.p (.int .i64 ((r14.1.headD .undef).pv.toInt)), .p (.int .i64 ((r14.1.tail.headD .undef).pv.toInt)), .p (.int .i64 ((r14.1.tail.tail.headD .undef).pv.toInt)), .p (.int .i64 beats)] []).bind fun r15 =>
                            (C 26 [.p (.int .i64 tick), .p (.int .i64 beats)] []).bind fun r16 =>
                            (C 30 [.p (.str ((r16.1.headD .undef).pv.toStr)), .p (.int .i64 beats)] []).bind fun r17 =>
                            bif ((r14.1.tail.tail.tail.headD .undef).pv.toInt != (0 : Int)) then
                              some ([.p (.bool false)], [])
                            else
                              bif ((r15.1.tail.headD .undef).pv.toInt != (0 : Int)) then
                                some ([.p (.bool false)], [])
                              else
                                bif ((r16.1.tail.headD .undef).pv.toInt != (0 : Int)) then
                                  some ([.p (.bool false)], [])
                                else
                                  bif ((r17.1.tail.headD .undef).pv.toInt != (0 : Int)) then
                                    some ([.p (.bool false)], [])
                                  else
                                    bif ((r15.1.headD .undef).pv.toInt != tick) then
                                      some ([.p (.bool false)], [])
                                    else
                                      bif ((r17.1.headD .undef).pv.toInt != tick) then
                                        some ([.p (.bool false)], [])
                                      else
                                        (C 15 [.p (.list true [.int .i64, .int .i64] l), .p (.int .i64 tick)] []).bind fun r18 =>
                                        bif ((r18.1.tail.headD .undef).pv.toInt == (0 : Int)) then
                                          (C 16 [.p (.list true [.int .i64, .int .i64] l), .p (.int .i64 ((r18.1.headD .undef).pv.toInt))] []).bind fun r19 =>
                                          (C 15 [.p (.list true [.int .i64, .int .i64] l), .p (.int .i64 ((r19.1.headD .undef).pv.toInt))] []).bind fun r20 =>
                                          bif ((r19.1.tail.headD .undef).pv.toInt != (0 : Int)) then
                                            some ([.p (.bool false)], [])
                                          else
                                            bif ((r20.1.tail.headD .undef).pv.toInt != (0 : Int)) then
                                              some ([.p (.bool false)], [])
                                            else
                                              bif (decide ((r19.1.headD .undef).pv.toInt < tick)) then
                                                some ([.p (.bool false)], [])
                                              else
                                                bif ((r20.1.headD .undef).pv.toInt != (r18.1.headD .undef).pv.toInt) then
                                                  some ([.p (.bool false)], [])
                                                else
                                                  bif (!(decide (step = (0 : Int)))) then (C 15 [.p (.list true [.int .i64, .int .i64] l), .p (.int .i64 (IntKind.i64.wrap ((IntKind.i64.wrap (tick.tdiv step)) * step)))] []).bind fun r21 =>
                                                  bif ((r21.1.tail.headD .undef).pv.toInt == (0 : Int)) then
                                                    (C 17 [.p (.list true [.int .i64, .int .i64] l), .p (.int .i64 ((r21.1.headD .undef).pv.toInt)), .p (.int .i64 step)] []).bind fun r22 =>
                                                    (C 15 [.p (.list true [.int .i64, .int .i64] l), .p (.int .i64 ((r22.1.headD .undef).pv.toInt))] []).bind fun r23 =>
                                                    bif ((r22.1.tail.headD .undef).pv.toInt != (0 : Int)) then
                                                      some ([.p (.bool false)], [])
                                                    else
                                                      bif ((r23.1.tail.headD .undef).pv.toInt != (0 : Int)) then
                                                        some ([.p (.bool false)], [])
                                                      else
                                                        bif ((r23.1.headD .undef).pv.toInt != (r21.1.headD .undef).pv.toInt) then
                                                          some ([.p (.bool false)], [])
                                                        else
                                                          bif (!(decide (step = (0 : Int)))) then bif ((((r22.1.headD .undef).pv.toInt).tmod step) != (0 : Int)) then
                                                            some ([.p (.bool false)], [])
                                                          else
                                                            bif (decide ((r22.1.headD .undef).pv.toInt > (IntKind.i64.wrap ((IntKind.i64.wrap (tick.tdiv step)) * step)))) then
                                                              some ([.p (.bool false)], [])
                                                            else
                                                              bif (decide (cut < (1 : Int))) then
                                                                (C 11 [] []).bind fun r24 =>
                                                                some ([.p (.bool ((r24.1.headD .undef).pv.toBool))], [])
                                                              else
                                                                bif (decide (cut > (4194304 : Int))) then
                                                                  (C 11 [] []).bind fun r25 =>
                                                                  some ([.p (.bool ((r25.1.headD .undef).pv.toBool))], [])
                                                                else
                                                                  L tab C 10 [] [.lp [1, 1, 1, 1, 1, 1, 1, 1, 1, 1, 1, 1, 1, 1, 1, 1, 0, 1, 0]] (S10_1111111111111111010 l tick cut ((r12.1.headD .undef).pv.toInt) 0 0 0 []) else none
                                                  else
                                                    bif (decide (cut < (1 : Int))) then
                                                      (C 11 [] []).bind fun r26 =>
                                                      some ([.p (.bool ((r26.1.headD .undef).pv.toBool))], [])
                                                    else
                                                      bif (decide (cut > (4194304 : Int))) then
                                                        (C 11 [] []).bind fun r27 =>
                                                        some ([.p (.bool ((r27.1.headD .undef).pv.toBool))], [])
                                                      else
                                                        L tab C 10 [] [.lp [1, 1, 1, 1, 1, 1, 1, 1, 1, 1, 1, 1, 1, 1, 1, 1, 0, 1, 0]] (S10_1111111111111111010 l tick cut ((r12.1.headD .undef).pv.toInt) 0 0 0 []) else none
                                        else
                                          bif (!(decide (step = (0 : Int)))) then (C 15 [.p (.list true [.int .i64, .int .i64] l), .p (.int .i64 (IntKind.i64.wrap ((IntKind.i64.wrap (tick.tdiv step)) * step)))] []).bind fun r28 =>
                                          bif ((r28.1.tail.headD .undef).pv.toInt == (0 : Int)) then
                                            (C 17 [.p (.list true [.int .i64, .int .i64] l), .p (.int .i64 ((r28.1.headD .undef).pv.toInt)), .p (.int .i64 step)] []).bind fun r29 =>
                                            (C 15 [.p (.list true [.int .i64, .int .i64] l), .p (.int .i64 ((r29.1.headD .undef).pv.toInt))] []).bind fun r30 =>
                                            bif ((r29.1.tail.headD .undef).pv.toInt != (0 : Int)) then
                                              some ([.p (.bool false)], [])
                                            else
                                              bif ((r30.1.tail.headD .undef).pv.toInt != (0 : Int)) then
                                                some ([.p (.bool false)], [])
                                              else
                                                bif ((r30.1.headD .undef).pv.toInt != (r28.1.headD .undef).pv.toInt) then
                                                  some ([.p (.bool false)], [])
                                                else
                                                  bif (!(decide (step = (0 : Int)))) then bif ((((r29.1.headD .undef).pv.toInt).tmod step) != (0 : Int)) then
                                                    some ([.p (.bool false)], [])
                                                  else
                                                    bif (decide ((r29.1.headD .undef).pv.toInt > (IntKind.i64.wrap ((IntKind.i64.wrap (tick.tdiv step)) * step)))) then
                                                      some ([.p (.bool false)], [])
                                                    else
                                                      bif (decide (cut < (1 : Int))) then
                                                        (C 11 [] []).bind fun r31 =>
                                                        some ([.p (.bool ((r31.1.headD .undef).pv.toBool))], [])
                                                      else
                                                        bif (decide (cut > (4194304 : Int))) then
                                                          (C 11 [] []).bind fun r32 =>
                                                          some ([.p (.bool ((r32.1.headD .undef).pv.toBool))], [])
                                                        else
                                                          L tab C 10 [] [.lp [1, 1, 1, 1, 1, 1, 1, 1, 1, 1, 1, 1, 1, 1, 1, 1, 0, 1, 0]] (S10_1111111111111111010 l tick cut ((r12.1.headD .undef).pv.toInt) 0 0 0 []) else none
                                          else
                                            bif (decide (cut < (1 : Int))) then
                                              (C 11 [] []).bind fun r33 =>
                                              some ([.p (.bool ((r33.1.headD .undef).pv.toBool))], [])
                                            else
                                              bif (decide (cut > (4194304 : Int))) then
                                                (C 11 [] []).bind fun r34 =>
                                                some ([.p (.bool ((r34.1.headD .undef).pv.toBool))], [])
                                              else
                                                L tab C 10 [] [.lp [1, 1, 1, 1, 1, 1, 1, 1, 1, 1, 1, 1, 1, 1, 1, 1, 0, 1, 0]] (S10_1111111111111111010 l tick cut ((r12.1.headD .undef).pv.toInt) 0 0 0 []) else none := by kernel_rfl
theorem e10_1111111111111111010 (C : CallF) (l' : List PV) (tick' : Int) (cut' : Int) (a' : Int) (two_o : Nat) (two_l : Nat) (i' : Int) (two_b : List PV) : R tab C 10 [] [.lp [1, 1, 1, 1, 1, 1, 1, 1, 1, 1, 1, 1, 1, 1, 1, 1, 0, 1, 0]] (S10_1111111111111111010 l' tick' cut' a' two_o two_l i' two_b) =
  bif (decide (i' < ((l'.length : Nat) : Int))) then
    bif ((decide ((0 : Int) ≤ i')) && (decide (i' < ((l'.length : Nat) : Int)))) then bif (((l'.getD i'.toNat .nil).cell 0).toInt == cut') then
      (C 11 [] []).bind fun r1 =>
      some ([.p (.bool ((r1.1.headD .undef).pv.toBool))], [])
    else
      bif ((decide ((0 : Int) ≤ i')) && (decide (i' < ((l'.length : Nat) : Int)))) then bif (decide (((l'.getD i'.toNat .nil).cell 0).toInt > cut')) then
        bif (i' == (0 : Int)) then
          bif ((decide ((0 : Int) ≤ (IntKind.i64.wrap (i' - (1 : Int))))) && (decide ((IntKind.i64.wrap (i' - (1 : Int))) < ((l'.length : Nat) : Int)))) then bif (decide ((two_l + 1) ≤ 2147483648)) then bif ((decide ((0 : Int) ≤ i')) && (decide (i' < ((l'.length : Nat) : Int)))) then bif (decide (((two_l + 1) + 1) ≤ 2147483648)) then L tab C 10 [] [.lp [1, 1, 1, 1, 1, 1, 1, 1, 1, 1, 1, 1, 1, 1, 1, 1, 0, 1, 0]] (S10_1111111111111111010 l' tick' cut' a' 0 ((two_l + 1) + 1) (IntKind.i64.wrap (i' + (1 : Int))) ((((((two_b.drop two_o).take two_l) ++ ([.agg [.int .i64 cut', .int .i64 (((l'.getD ((IntKind.i64.wrap (i' - (1 : Int))).toNat) .nil).cell 1).toInt)]] : List PV)).drop 0).take (two_l + 1)) ++ ([.agg [.int .i64 (((l'.getD i'.toNat .nil).cell 0).toInt), .int .i64 (((l'.getD i'.toNat .nil).cell 1).toInt)]] : List PV))) else none else none else none else none
        else
          bif ((decide ((0 : Int) ≤ (IntKind.i64.wrap (i' - (1 : Int))))) && (decide ((IntKind.i64.wrap (i' - (1 : Int))) < ((l'.length : Nat) : Int)))) then bif (decide (((l'.getD ((IntKind.i64.wrap (i' - (1 : Int))).toNat) .nil).cell 0).toInt < cut')) then
            bif ((decide ((0 : Int) ≤ (IntKind.i64.wrap (i' - (1 : Int))))) && (decide ((IntKind.i64.wrap (i' - (1 : Int))) < ((l'.length : Nat) : Int)))) then bif (decide ((two_l + 1) ≤ 2147483648)) then bif ((decide ((0 : Int) ≤ i')) && (decide (i' < ((l'.length : Nat) : Int)))) then bif (decide (((two_l + 1) + 1) ≤ 2147483648)) then L tab C 10 [] [.lp [1, 1, 1, 1, 1, 1, 1, 1, 1, 1, 1, 1, 1, 1, 1, 1, 0, 1, 0]] (S10_1111111111111111010 l' tick' cut' a' 0 ((two_l + 1) + 1) (IntKind.i64.wrap (i' + (1 : Int))) ((((((two_b.drop two_o).take two_l) ++ ([.agg [.int .i64 cut', .int .i64 (((l'.getD ((IntKind.i64.wrap (i' - (1 : Int))).toNat) .nil).cell 1).toInt)]] : List PV)).drop 0).take (two_l + 1)) ++ ([.agg [.int .i64 (((l'.getD i'.toNat .nil).cell 0).toInt), .int .i64 (((l'.getD i'.toNat .nil).cell 1).toInt)]] : List PV))) else none else none else none else none
          else
            bif ((decide ((0 : Int) ≤ i')) && (decide (i' < ((l'.length : Nat) : Int)))) then bif (decide ((two_l + 1) ≤ 2147483648)) then L tab C 10 [] [.lp [1, 1, 1, 1, 1, 1, 1, 1, 1, 1, 1, 1, 1, 1, 1, 1, 0, 1, 0]] (S10_1111111111111111010 l' tick' cut' a' 0 (two_l + 1) (IntKind.i64.wrap (i' + (1 : Int))) (((two_b.drop two_o).take two_l) ++ ([.agg [.int .i64 (((l'.getD i'.toNat .nil).cell 0).toInt), .int .i64 (((l'.getD i'.toNat .nil).cell 1).toInt)]] : List PV))) else none else none else none
      else
        bif ((decide ((0 : Int) ≤ i')) && (decide (i' < ((l'.length : Nat) : Int)))) then bif (decide ((two_l + 1) ≤ 2147483648)) then L tab C 10 [] [.lp [1, 1, 1, 1, 1, 1, 1, 1, 1, 1, 1, 1, 1, 1, 1, 1, 0, 1, 0]] (S10_1111111111111111010 l' tick' cut' a' 0 (two_l + 1) (IntKind.i64.wrap (i' + (1 : Int))) (((two_b.drop two_o).take two_l) ++ ([.agg [.int .i64 (((l'.getD i'.toNat .nil).cell 0).toInt), .int .i64 (((l'.getD i'.toNat .nil).cell 1).toInt)]] : List PV))) else none else none else none else none
  else
    bif ((decide ((0 : Int) ≤ (IntKind.i64.wrap (((l'.length : Nat) : Int) - (1 : Int))))) && (decide ((IntKind.i64.wrap (((l'.length : Nat) : Int) - (1 : Int))) < ((l'.length : Nat) : Int)))) then bif (decide (((l'.getD ((IntKind.i64.wrap (((l'.length : Nat) : Int) - (1 : Int))).toNat) .nil).cell 0).toInt < cut')) then
      bif ((decide ((0 : Int) ≤ (IntKind.i64.wrap (((l'.length : Nat) : Int) - (1 : Int))))) && (decide ((IntKind.i64.wrap (((l'.length : Nat) : Int) - (1 : Int))) < ((l'.length : Nat) : Int)))) then bif (decide ((two_l + 1) ≤ 2147483648)) then (C 14 [.p (.list true [.int .i64, .int .i64] (((((two_b.drop two_o).take two_l) ++ ([.agg [.int .i64 cut', .int .i64 (((l'.getD ((IntKind.i64.wrap (((l'.length : Nat) : Int) - (1 : Int))).toNat) .nil).cell 1).toInt)]] : List PV)).drop 0).take (two_l + 1))), .p (.int .i64 tick')] []).bind fun r2 =>
      bif ((r2.1.tail.headD .undef).pv.toInt == (0 : Int)) then
        bif ((r2.1.headD .undef).pv.toInt == a') then
          (C 11 [] []).bind fun r3 =>
          some ([.p (.bool ((r3.1.headD .undef).pv.toBool))], [])
        else
          some ([.p (.bool false)], [])
      else
        some ([.p (.bool false)], []) else none else none
    else
      (C 14 [.p (.list true [.int .i64, .int .i64] ((two_b.drop two_o).take two_l)), .p (.int .i64 tick')] []).bind fun r4 =>
      bif ((r4.1.tail.headD .undef).pv.toInt == (0 : Int)) then
        bif ((r4.1.headD .undef).pv.toInt == a') then
          (C 11 [] []).bind fun r5 =>
          some ([.p (.bool ((r5.1.headD .undef).pv.toBool))], [])
        else
          some ([.p (.bool false)], [])
      else
        some ([.p (.bool false)], []) else none := by kernel_rfl
/- skylanternlaw27.known -/
def S11_111111111111111111010 (t147_c0_r0 : Int) (t147_c1_r0 : List PV) (t147_c2_r0 : Int) (t147_c3_r0 : Int) (b0_b0 : Bool) (n_b0 : Int) : St := ⟨(.ptr 0 0 0) :: .undef :: .undef :: .undef :: .undef :: .undef :: .undef :: .undef :: .undef :: .undef :: .undef :: (.ptr 11 0 0) :: .undef :: .undef :: .undef :: .undef :: .undef :: .undef :: .undef :: .undef :: .undef :: .undef :: .undef :: .undef :: .undef :: .undef :: .undef :: .undef :: .undef :: .undef :: .undef :: .undef :: .undef :: .undef :: .undef :: .undef :: .undef :: .undef :: .undef :: .undef :: .undef :: .undef :: .undef :: .undef :: .undef :: .undef :: .undef :: .undef :: .undef :: .undef :: .undef :: .undef :: .undef :: .undef :: .undef :: .undef :: .undef :: .undef :: .undef :: .undef :: .undef :: .undef :: .undef :: .undef :: .undef :: .undef :: .undef :: .undef :: .undef :: .undef :: .undef :: .undef :: .undef :: .undef :: .undef :: .undef :: .undef :: .undef :: .undef :: .undef :: .undef :: .undef :: .undef :: .undef :: .undef :: .undef :: .undef :: .undef :: .undef :: .undef :: .undef :: .undef :: .undef :: .undef :: .undef :: .undef :: .undef :: .undef :: .undef :: .undef :: .undef :: .undef :: .undef :: .undef :: .undef :: .undef :: .undef :: .undef :: .undef :: .undef :: .undef :: .undef :: .undef :: .undef :: .undef :: .undef :: .undef :: .undef :: .undef :: .undef :: .undef :: .undef :: .undef :: .undef :: .undef :: .undef :: .undef :: .undef :: .undef :: .undef :: .undef :: .undef :: .undef :: .undef :: .undef :: .undef :: .undef :: .undef :: .undef :: .undef :: .undef :: .undef :: .undef :: .undef :: .undef :: .undef :: .undef :: (.p (.fn 47 [.ref [.int .i64 t147_c0_r0], .ref [.list true [.int .i64, .int .i64] t147_c1_r0], .ref [.int .i64 t147_c2_r0], .ref [.int .i64 t147_c3_r0]])) :: List.replicate 79 .undef, [(0, .box [.p (.bool b0_b0)]), (11, .box [.p (.int .i64 n_b0)])]⟩
theorem e11 (C : CallF)  : acallI tab C 11 [] [] =
  (C 32 [] []).bind fun r1 =>
  (C 14 [.p (.list true [.int .i64, .int .i64] ((((r1.1.headD .undef).freshList).drop 0).take ((r1.1.headD .undef).freshList.length))), .p (.int .i64 1)] []).bind fun r2 =>
  (C 15 [.p (.list true [.int .i64, .int .i64] ((((r1.1.headD .undef).freshList).drop 0).take ((r1.1.headD .undef).freshList.length))), .p (.int .i64 1)] []).bind fun r3 =>
  (C 15 [.p (.list true [.int .i64, .int .i64] ((((r1.1.headD .undef).freshList).drop 0).take ((r1.1.headD .undef).freshList.length))), .p (.int .i64 960)] []).bind fun r4 =>
  (C 15 [.p (.list true [.int .i64, .int .i64] ((((r1.1.headD .undef).freshList).drop 0).take ((r1.1.headD .undef).freshList.length))), .p (.int .i64 961)] []).bind fun r5 =>
  (C 33 [.p (.int .i64 ((r2.1.headD .undef).pv.toInt)), .p (.int .i64 ((r2.1.tail.headD .undef).pv.toInt)), .p (.int .i64 500000)] []).bind fun r6 =>
  bif (!(r6.1.headD .undef).pv.toBool) then
    some ([.p (.bool false)], [])
  else
    (C 33 [.p (.int .i64 ((r3.1.headD .undef).pv.toInt)), .p (.int .i64 ((r3.1.tail.headD .undef).pv.toInt)), .p (.int .i64 1)] []).bind fun r7 =>
    bif (!(r7.1.headD .undef).pv.toBool) then
      some ([.p (.bool false)], [])
    else
      (C 33 [.p (.int .i64 ((r4.1.headD .undef).pv.toInt)), .p (.int .i64 ((r4.1.tail.headD .undef).pv.toInt)), .p (.int .i64 1000)] []).bind fun r8 =>
      bif (!(r8.1.headD .undef).pv.toBool) then
        some ([.p (.bool false)], [])
      else
        (C 33 [.p (.int .i64 ((r5.1.headD .undef).pv.toInt)), .p (.int .i64 ((r5.1.tail.headD .undef).pv.toInt)), .p (.int .i64 1001)] []).bind fun r9 =>
        bif (!(r9.1.headD .undef).pv.toBool) then
          some ([.p (.bool false)], [])
        else
          (C 15 [.p (.list true [.int .i64, .int .i64] ((((r1.1.headD .undef).freshList).drop 0).take ((r1.1.headD .undef).freshList.length))), .p (.int .i64 1440)] []).bind fun r10 =>
          (C 16 [.p (.list true [.int .i64, .int .i64] ((((r1.1.headD .undef).freshList).drop 0).take ((r1.1.headD .undef).freshList.length))), .p (.int .i64 0)] []).bind fun r11 =>
          (C 16 [.p (.list true [.int .i64, .int .i64] ((((r1.1.headD .undef).freshList).drop 0).take ((r1.1.headD .undef).freshList.length))), .p (.int .i64 1000)] []).bind fun r12 =>
          (C 16 [.p (.list true [.int .i64, .int .i64] ((((r1.1.headD .undef).freshList).drop 0).take ((r1.1.headD .undef).freshList.length))), .p (.int .i64 1250)] []).bind fun r13 =>
          (C 33 [.p (.int .i64 ((r10.1.headD .undef).pv.toInt)), .p (.int .i64 ((r10.1.tail.headD .undef).pv.toInt)), .p (.int .i64 1250)] []).bind fun r14 =>
          bif (!(r14.1.headD .undef).pv.toBool) then
            some ([.p (.bool false)], [])
          else
            (C 33 [.p (.int .i64 ((r11.1.headD .undef).pv.toInt)), .p (.int .i64 ((r11.1.tail.headD .undef).pv.toInt)), .p (.int .i64 0)] []).bind fun r15 =>
            bif (!(r15.1.headD .undef).pv.toBool) then
              some ([.p (.bool false)], [])
            else
              (C 33 [.p (.int .i64 ((r12.1.headD .undef).pv.toInt)), .p (.int .i64 ((r12.1.tail.headD .undef).pv.toInt)), .p (.int .i64 960)] []).bind fun r16 =>
              bif (!(r16.1.headD .undef).pv.toBool) then
                some ([.p (.bool false)], [])
              else
                (C 33 [.p (.int .i64 ((r13.1.headD .undef).pv.toInt)), .p (.int .i64 ((r13.1.tail.headD .undef).pv.toInt)), .p (.int .i64 1440)] []).bind fun r17 =>
                bif (!(r17.1.headD .undef).pv.toBool) then
                  some ([.p (.bool false)], [])
                else
                  (C 17 [.p (.list true [.int .i64, .int .i64] ((((r1.1.headD .undef).freshList).drop 0).take ((r1.1.headD .undef).freshList.length))), .p (.int .i64 700), .p (.int .i64 480)] []).bind fun r18 =>
                  (C 17 [.p (.list true [.int .i64, .int .i64] ((((r1.1.headD .undef).freshList).drop 0).take ((r1.1.headD .undef).freshList.length))), .p (.int .i64 750), .p (.int .i64 480)] []).bind fun r19 =>
                  (C 17 [.p (.list true [.int .i64, .int .i64] ((((r1.1.headD .undef).freshList).drop 0).take ((r1.1.headD .undef).freshList.length))), .p (.int .i64 751), .p (.int .i64 480)] []).bind fun r20 =>
                  (C 22 [.p (.list true [.int .i64, .int .i64] ((((r1.1.headD .undef).freshList).drop 0).take ((r1.1.headD .undef).freshList.length))), .p (.int .i64 500), .p (.int .i64 1250), .p (.int .i64 480)] []).bind fun r21 =>
                  bif (r21.1.headD .undef).pv.isNilF then
                    (C 33 [.p (.int .i64 ((r18.1.headD .undef).pv.toInt)), .p (.int .i64 ((r18.1.tail.headD .undef).pv.toInt)), .p (.int .i64 480)] []).bind fun r22 =>
                    bif (!(r22.1.headD .undef).pv.toBool) then
                      some ([.p (.bool false)], [])
                    else
                      (C 33 [.p (.int .i64 ((r19.1.headD .undef).pv.toInt)), .p (.int .i64 ((r19.1.tail.headD .undef).pv.toInt)), .p (.int .i64 480)] []).bind fun r23 =>
                      bif (!(r23.1.headD .undef).pv.toBool) then
                        some ([.p (.bool false)], [])
                      else
                        (C 33 [.p (.int .i64 ((r20.1.headD .undef).pv.toInt)), .p (.int .i64 ((r20.1.tail.headD .undef).pv.toInt)), .p (.int .i64 960)] []).bind fun r24 =>
                        bif (!(r24.1.headD .undef).pv.toBool) then
                          some ([.p (.bool false)], [])
                        else
                          bif ((r21.1.tail.headD .undef).pv.toInt != (0 : Int)) then
                            some ([.p (.bool false)], [])
                          else
                            some ([.p (.bool false)], [])
                  else
                    (C 33 [.p (.int .i64 ((r18.1.headD .undef).pv.toInt)), .p (.int .i64 ((r18.1.tail.headD .undef).pv.toInt)), .p (.int .i64 480)] []).bind fun r25 =>
                    bif (!(r25.1.headD .undef).pv.toBool) then
                      some ([.p (.bool false)], [])
                    else
                      (C 33 [.p (.int .i64 ((r19.1.headD .undef).pv.toInt)), .p (.int .i64 ((r19.1.tail.headD .undef).pv.toInt)), .p (.int .i64 480)] []).bind fun r26 =>
                      bif (!(r26.1.headD .undef).pv.toBool) then
                        some ([.p (.bool false)], [])
                      else
                        (C 33 [.p (.int .i64 ((r20.1.headD .undef).pv.toInt)), .p (.int .i64 ((r20.1.tail.headD .undef).pv.toInt)), .p (.int .i64 960)] []).bind fun r27 =>
                        bif (!(r27.1.headD .undef).pv.toBool) then
                          some ([.p (.bool false)], [])
                        else
                          bif ((r21.1.tail.headD .undef).pv.toInt != (0 : Int)) then
                            some ([.p (.bool false)], [])
                          else
                            (C 47 [.yld, .p (.ref [.int .i64 ((((r21.1.headD .undef).pv.cap 0).rcell 0).toInt)]), .p (.ref [.list true [.int .i64, .int .i64] ((((r21.1.headD .undef).pv.cap 1).rcell 0).toList)]), .p (.ref [.int .i64 ((((r21.1.headD .undef).pv.cap 2).rcell 0).toInt)]), .p (.ref [.int .i64 ((((r21.1.headD .undef).pv.cap 3).rcell 0).toInt)])] [.log true []]).bind fun r28 =>
                            L tab C 11 [] [.rg [1, 1, 1, 1, 1, 1, 1, 1, 1, 1, 1, 1, 1, 1, 1, 1, 1, 1, 0, 1, 0] [(false, [.int .i64]), (false, [.int .i64])] (logOf r28.2)] (S11_111111111111111111010 ((((r21.1.headD .undef).pv.cap 0).rcell 0).toInt) ((((r21.1.headD .undef).pv.cap 1).rcell 0).toList) ((((r21.1.headD .undef).pv.cap 2).rcell 0).toInt) ((((r21.1.headD .undef).pv.cap 3).rcell 0).toInt) false 0) := by kernel_rfl
theorem e11_111111111111111111010_nil (C : CallF) (t147_c0_r0 : Int) (t147_c1_r0 : List PV) (t147_c2_r0 : Int) (t147_c3_r0 : Int) (b0_b0 : Bool) (n_b0 : Int) : L tab C 11 [] [.rg [1, 1, 1, 1, 1, 1, 1, 1, 1, 1, 1, 1, 1, 1, 1, 1, 1, 1, 0, 1, 0] [(false, [.int .i64]), (false, [.int .i64])] []] (S11_111111111111111111010 t147_c0_r0 t147_c1_r0 t147_c2_r0 t147_c3_r0 b0_b0 n_b0) =
  (C 24 [.p (.int .i64 1000), .p (.int .i64 2)] []).bind fun r1 =>
  bif (n_b0 != (2 : Int)) then
    some ([.p (.bool false)], [])
  else
    bif ((r1.1.tail.tail.tail.headD .undef).pv.toInt != (0 : Int)) then
      some ([.p (.bool false)], [])
    else
      bif ((r1.1.headD .undef).pv.toInt != (2 : Int)) then
        some ([.p (.bool false)], [])
      else
        bif ((r1.1.tail.headD .undef).pv.toInt != (1 : Int)) then
          some ([.p (.bool false)], [])
        else
          bif ((r1.1.tail.tail.headD .undef).pv.toInt != (40 : Int)) then
            some ([.p (.bool false)], [])
          else
            (C 28 [.p (.int .i64 2), .p (.int .i64 1), .p (.int .i64 40), .p (.int .i64 2)] []).bind fun r2 =>
            (C 28 [.p (.int .i64 1), .p (.int .i64 3), .p (.int .i64 0), .p (.int .i64 2)] []).bind fun r3 =>
            (C 26 [.p (.int .i64 1000), .p (.int .i64 2)] []).bind fun r4 =>
            (C 30 [.p (.str ⟨#[50, 46, 49, 46, 48, 52, 48]⟩), .p (.int .i64 2)] []).bind fun r5 =>
            (C 33 [.p (.int .i64 ((r2.1.headD .undef).pv.toInt)), .p (.int .i64 ((r2.1.tail.headD .undef).pv.toInt)), .p (.int .i64 1000)] []).bind fun r6 =>
            bif (r6.1.headD .undef).pv.toBool then
              bif ((r3.1.tail.headD .undef).pv.toInt == (3 : Int)) then
                bif ((r4.1.tail.headD .undef).pv.toInt == (0 : Int)) then
                  bif (((r4.1.headD .undef).pv.toStr).toList == (⟨#[50, 46, 49, 46, 52, 48]⟩ : ByteArray).toList) then
                    some ([.p (.bool ((r5.1.tail.headD .undef).pv.toInt == (6 : Int)))], [])
                  else
                    some ([.p (.bool false)], [])
                else
                  some ([.p (.bool false)], [])
              else
                some ([.p (.bool false)], [])
            else
              some ([.p (.bool false)], []) := by kernel_rfl
theorem e11_111111111111111111010_cons (C : CallF) (t147_c0_r0 : Int) (t147_c1_r0 : List PV) (t147_c2_r0 : Int) (t147_c3_r0 : Int) (b0_b0 : Bool) (n_b0 : Int) (y0 : Int) (y1 : Int) (ys : List PV) : L tab C 11 [] [.rg [1, 1, 1, 1, 1, 1, 1, 1, 1, 1, 1, 1, 1, 1, 1, 1, 1, 1, 0, 1, 0] [(false, [.int .i64]), (false, [.int .i64])] (.agg [.int .i64 y0, .int .i64 y1] :: ys)] (S11_111111111111111111010 t147_c0_r0 t147_c1_r0 t147_c2_r0 t147_c3_r0 b0_b0 n_b0) =
  bif (decide (n_b0 ≥ (2 : Int))) then
    some ([.p (.bool false)], [])
  else
    bif (y0 != (IntKind.i64.wrap ((480 : Int) * (IntKind.i64.wrap (n_b0 + (1 : Int)))))) then
      some ([.p (.bool false)], [])
    else
      bif (y1 != (IntKind.i64.wrap ((500 : Int) * (IntKind.i64.wrap (n_b0 + (1 : Int)))))) then
        some ([.p (.bool false)], [])
      else
        L tab C 11 [] [.rg [1, 1, 1, 1, 1, 1, 1, 1, 1, 1, 1, 1, 1, 1, 1, 1, 1, 1, 0, 1, 0] [(false, [.int .i64]), (false, [.int .i64])] ys] (S11_111111111111111111010 t147_c0_r0 t147_c1_r0 t147_c2_r0 t147_c3_r0 b0_b0 (IntKind.i64.wrap (n_b0 + (1 : Int)))) := by kernel_rfl
/- beat.Valid -/
def S12_1010 (l' : List PV) (t5' : List PV) (t6' : Int) (t7' : Int) : St := ⟨(.p (.list true [.int .i64, .int .i64] l')) :: .undef :: .undef :: .undef :: .undef :: (.p (.list true [.int .i64, .int .i64] t5')) :: (.p (.int .i64 t6')) :: (.p (.int .i64 t7')) :: List.replicate 44 .undef, []⟩
theorem e12 (C : CallF) (l : List PV) : acallI tab C 12 [.p (.list true [.int .i64, .int .i64] l)] [] =
  L tab C 12 [] [.lp [1, 0, 1, 0]] (S12_1010 l l ((l.length : Nat) : Int) 0) := by kernel_rfl
theorem e12_1010 (C : CallF) (l' : List PV) (t5' : List PV) (t6' : Int) (t7' : Int) : R tab C 12 [] [.lp [1, 0, 1, 0]] (S12_1010 l' t5' t6' t7') =
  bif (decide (t7' < t6')) then
    bif ((decide ((0 : Int) ≤ t7')) && (decide (t7' < ((t5'.length : Nat) : Int)))) then (C 34 [.p (.int .i64 (((t5'.getD t7'.toNat .nil).cell 1).toInt)), .p (.int .i64 100000), .p (.int .i64 6000000)] []).bind fun r1 =>
    bif (!(r1.1.headD .undef).pv.toBool) then
      some ([.p (.bool false)], [])
    else
      bif (decide (((t5'.getD t7'.toNat .nil).cell 0).toInt > (4194304 : Int))) then
        some ([.p (.bool false)], [])
      else
        bif (decide (t7' > (0 : Int))) then
          bif ((decide ((0 : Int) ≤ (IntKind.i64.wrap (t7' - (1 : Int))))) && (decide ((IntKind.i64.wrap (t7' - (1 : Int))) < ((l'.length : Nat) : Int)))) then bif (decide (((t5'.getD t7'.toNat .nil).cell 0).toInt ≤ ((l'.getD ((IntKind.i64.wrap (t7' - (1 : Int))).toNat) .nil).cell 0).toInt)) then
            some ([.p (.bool false)], [])
          else
            L tab C 12 [] [.lp [1, 0, 1, 0]] (S12_1010 l' t5' t6' (IntKind.i64.wrap (t7' + (1 : Int)))) else none
        else
          L tab C 12 [] [.lp [1, 0, 1, 0]] (S12_1010 l' t5' t6' (IntKind.i64.wrap (t7' + (1 : Int)))) else none
  else
    bif (decide (((l'.length : Nat) : Int) ≥ (1 : Int))) then
      bif (decide (((l'.length : Nat) : Int) ≤ (64 : Int))) then
        bif (decide ((0 : Int) < ((l'.length : Nat) : Int))) then some ([.p (.bool (((l'.getD 0 .nil).cell 0).toInt == (0 : Int)))], []) else none
      else
        some ([.p (.bool false)], [])
    else
      some ([.p (.bool false)], []) := by kernel_rfl
/- skylanternref27.Valid -/
def S13_11010 (l' : List PV) (i' : Int) : St := ⟨(.p (.list true [.int .i64, .int .i64] l')) :: .undef :: .undef :: (.p (.int .i64 i')) :: List.replicate 54 .undef, []⟩
theorem e13 (C : CallF) (l : List PV) : acallI tab C 13 [.p (.list true [.int .i64, .int .i64] l)] [] =
  bif (decide (((l.length : Nat) : Int) < (1 : Int))) then
    some ([.p (.bool false)], [])
  else
    bif (decide (((l.length : Nat) : Int) > (64 : Int))) then
      some ([.p (.bool false)], [])
    else
      bif (decide ((0 : Int) < ((l.length : Nat) : Int))) then bif (((l.getD 0 .nil).cell 0).toInt != (0 : Int)) then
        some ([.p (.bool false)], [])
      else
        L tab C 13 [] [.lp [1, 1, 0, 1, 0]] (S13_11010 l 0) else none := by kernel_rfl
theorem e13_11010 (C : CallF) (l' : List PV) (i' : Int) : R tab C 13 [] [.lp [1, 1, 0, 1, 0]] (S13_11010 l' i') =
  bif (decide (i' < ((l'.length : Nat) : Int))) then
    bif ((decide ((0 : Int) ≤ i')) && (decide (i' < ((l'.length : Nat) : Int)))) then (C 35 [.p (.int .i64 (((l'.getD i'.toNat .nil).cell 1).toInt)), .p (.int .i64 100000), .p (.int .i64 6000000)] []).bind fun r1 =>
    bif (!(r1.1.headD .undef).pv.toBool) then
      some ([.p (.bool false)], [])
    else
      bif ((decide ((0 : Int) ≤ i')) && (decide (i' < ((l'.length : Nat) : Int)))) then bif (decide (((l'.getD i'.toNat .nil).cell 0).toInt > (4194304 : Int))) then
        some ([.p (.bool false)], [])
      else
        bif (decide (i' > (0 : Int))) then
          bif ((decide ((0 : Int) ≤ i')) && (decide (i' < ((l'.length : Nat) : Int)))) then bif ((decide ((0 : Int) ≤ (IntKind.i64.wrap (i' - (1 : Int))))) && (decide ((IntKind.i64.wrap (i' - (1 : Int))) < ((l'.length : Nat) : Int)))) then bif (decide (((l'.getD i'.toNat .nil).cell 0).toInt ≤ ((l'.getD ((IntKind.i64.wrap (i' - (1 : Int))).toNat) .nil).cell 0).toInt)) then
            some ([.p (.bool false)], [])
          else
            L tab C 13 [] [.lp [1, 1, 0, 1, 0]] (S13_11010 l' (IntKind.i64.wrap (i' + (1 : Int)))) else none else none
        else
          L tab C 13 [] [.lp [1, 1, 0, 1, 0]] (S13_11010 l' (IntKind.i64.wrap (i' + (1 : Int)))) else none else none
  else
    some ([.p (.bool true)], []) := by kernel_rfl
/- beat.Exact -/
theorem e14 (C : CallF) (l : List PV) (tick : Int) : acallI tab C 14 [.p (.list true [.int .i64, .int .i64] l), .p (.int .i64 tick)] [] =
  (C 12 [.p (.list true [.int .i64, .int .i64] l)] []).bind fun r1 =>
  bif (!(r1.1.headD .undef).pv.toBool) then
    some ([.p (.int .i64 0), .p (.int .i64 2)], [])
  else
    (C 34 [.p (.int .i64 tick), .p (.int .i64 0), .p (.int .i64 4194304)] []).bind fun r2 =>
    bif (!(r2.1.headD .undef).pv.toBool) then
      some ([.p (.int .i64 0), .p (.int .i64 3)], [])
    else
      (C 36 [.p (.list true [.int .i64, .int .i64] l), .p (.int .i64 tick)] []).bind fun r3 =>
      some ([.p (.int .i64 ((r3.1.headD .undef).pv.toInt)), .p (.int .i64 0)], []) := by kernel_rfl
/- beat.Time -/
theorem e15 (C : CallF) (l : List PV) (tick : Int) : acallI tab C 15 [.p (.list true [.int .i64, .int .i64] l), .p (.int .i64 tick)] [] =
  (C 14 [.p (.list true [.int .i64, .int .i64] l), .p (.int .i64 tick)] []).bind fun r1 =>
  bif ((r1.1.tail.headD .undef).pv.toInt != (0 : Int)) then
    some ([.p (.int .i64 0), .p (.int .i64 ((r1.1.tail.headD .undef).pv.toInt))], [])
  else
    (C 37 [.p (.list true [.int .i64, .int .i64] l), .p (.int .i64 tick)] []).bind fun r2 =>
    bif (decide ((r2.1.headD .undef).pv.toInt > (3600000 : Int))) then
      some ([.p (.int .i64 0), .p (.int .i64 3)], [])
    else
      some ([.p (.int .i64 ((r2.1.headD .undef).pv.toInt)), .p (.int .i64 0)], []) := by kernel_rfl
/- beat.Tick -/
theorem e16 (C : CallF) (l : List PV) (t : Int) : acallI tab C 16 [.p (.list true [.int .i64, .int .i64] l), .p (.int .i64 t)] [] =
  (C 38 [.p (.list true [.int .i64, .int .i64] l), .p (.int .i64 1), .p (.list false [.int .i64] [.int .i64 t])] []).bind fun r1 =>
  bif ((r1.1.headD .undef).pv.toInt != (0 : Int)) then
    some ([.p (.int .i64 0), .p (.int .i64 ((r1.1.headD .undef).pv.toInt))], [])
  else
    (C 39 [.p (.int .i64 4194304), .p (.fn 40 [.ref [.list true [.int .i64, .int .i64] l], .ref [.int .i64 t]])] []).bind fun r2 =>
    some ([.p (.int .i64 ((r2.1.headD .undef).pv.toInt)), .p (.int .i64 0)], []) := by kernel_rfl
/- beat.Nearest -/
theorem e17 (C : CallF) (l : List PV) (t : Int) (step : Int) : acallI tab C 17 [.p (.list true [.int .i64, .int .i64] l), .p (.int .i64 t), .p (.int .i64 step)] [] =
  (C 38 [.p (.list true [.int .i64, .int .i64] l), .p (.int .i64 step), .p (.list false [.int .i64] [.int .i64 t])] []).bind fun r1 =>
  bif ((r1.1.headD .undef).pv.toInt != (0 : Int)) then
    some ([.p (.int .i64 0), .p (.int .i64 ((r1.1.headD .undef).pv.toInt))], [])
  else
    bif (!(decide (step = (0 : Int)))) then (C 39 [.p (.int .i64 (IntKind.i64.wrap ((4194304 : Int).tdiv step))), .p (.fn 41 [.ref [.list true [.int .i64, .int .i64] l], .ref [.int .i64 step], .ref [.int .i64 t]])] []).bind fun r2 =>
    bif (decide ((r2.1.headD .undef).pv.toInt > (0 : Int))) then
      (C 37 [.p (.list true [.int .i64, .int .i64] l), .p (.int .i64 (IntKind.i64.wrap ((IntKind.i64.wrap ((r2.1.headD .undef).pv.toInt - (1 : Int))) * step)))] []).bind fun r3 =>
      (C 37 [.p (.list true [.int .i64, .int .i64] l), .p (.int .i64 (IntKind.i64.wrap ((r2.1.headD .undef).pv.toInt * step)))] []).bind fun r4 =>
      bif (decide ((r4.1.headD .undef).pv.toInt < t)) then
        bif (decide ((r4.1.headD .undef).pv.toInt < t)) then
          (C 39 [.p (.int .i64 (IntKind.i64.wrap ((4194304 : Int).tdiv step))), .p (.fn 42 [.ref [.list true [.int .i64, .int .i64] l], .ref [.int .i64 step], .ref [.int .i64 ((r4.1.headD .undef).pv.toInt)]])] []).bind fun r5 =>
          some ([.p (.int .i64 (IntKind.i64.wrap ((r5.1.headD .undef).pv.toInt * step))), .p (.int .i64 0)], [])
        else
          (C 39 [.p (.int .i64 (IntKind.i64.wrap ((4194304 : Int).tdiv step))), .p (.fn 42 [.ref [.list true [.int .i64, .int .i64] l], .ref [.int .i64 step], .ref [.int .i64 ((r3.1.headD .undef).pv.toInt)]])] []).bind fun r6 =>
          some ([.p (.int .i64 (IntKind.i64.wrap ((r6.1.headD .undef).pv.toInt * step))), .p (.int .i64 0)], [])
      else
        bif (decide ((IntKind.i64.wrap (t - (r3.1.headD .undef).pv.toInt)) ≤ (IntKind.i64.wrap ((r4.1.headD .undef).pv.toInt - t)))) then
          bif (decide ((r4.1.headD .undef).pv.toInt < t)) then
            (C 39 [.p (.int .i64 (IntKind.i64.wrap ((4194304 : Int).tdiv step))), .p (.fn 42 [.ref [.list true [.int .i64, .int .i64] l], .ref [.int .i64 step], .ref [.int .i64 ((r4.1.headD .undef).pv.toInt)]])] []).bind fun r7 =>
            some ([.p (.int .i64 (IntKind.i64.wrap ((r7.1.headD .undef).pv.toInt * step))), .p (.int .i64 0)], [])
          else
            (C 39 [.p (.int .i64 (IntKind.i64.wrap ((4194304 : Int).tdiv step))), .p (.fn 42 [.ref [.list true [.int .i64, .int .i64] l], .ref [.int .i64 step], .ref [.int .i64 ((r3.1.headD .undef).pv.toInt)]])] []).bind fun r8 =>
            some ([.p (.int .i64 (IntKind.i64.wrap ((r8.1.headD .undef).pv.toInt * step))), .p (.int .i64 0)], [])
        else
          some ([.p (.int .i64 (IntKind.i64.wrap ((r2.1.headD .undef).pv.toInt * step))), .p (.int .i64 0)], [])
    else
      some ([.p (.int .i64 (IntKind.i64.wrap ((r2.1.headD .undef).pv.toInt * step))), .p (.int .i64 0)], []) else none := by kernel_rfl
/- skylanternref27.Exact -/
theorem e18 (C : CallF) (l : List PV) (tick : Int) : acallI tab C 18 [.p (.list true [.int .i64, .int .i64] l), .p (.int .i64 tick)] [] =
  (C 13 [.p (.list true [.int .i64, .int .i64] l)] []).bind fun r1 =>
  bif (!(r1.1.headD .undef).pv.toBool) then
    some ([.p (.int .i64 0), .p (.int .i64 2)], [])
  else
    (C 35 [.p (.int .i64 tick), .p (.int .i64 0), .p (.int .i64 4194304)] []).bind fun r2 =>
    bif (!(r2.1.headD .undef).pv.toBool) then
      some ([.p (.int .i64 0), .p (.int .i64 3)], [])
    else
      (C 43 [.p (.list true [.int .i64, .int .i64] l), .p (.int .i64 tick)] []).bind fun r3 =>
      some ([.p (.int .i64 ((r3.1.headD .undef).pv.toInt)), .p (.int .i64 0)], []) := by kernel_rfl
/- skylanternref27.Time -/
theorem e19 (C : CallF) (l : List PV) (tick : Int) : acallI tab C 19 [.p (.list true [.int .i64, .int .i64] l), .p (.int .i64 tick)] [] =
  (C 18 [.p (.list true [.int .i64, .int .i64] l), .p (.int .i64 tick)] []).bind fun r1 =>
  bif ((r1.1.tail.headD .undef).pv.toInt != (0 : Int)) then
    some ([.p (.int .i64 0), .p (.int .i64 ((r1.1.tail.headD .undef).pv.toInt))], [])
  else
    (C 44 [.p (.int .i64 ((r1.1.headD .undef).pv.toInt))] []).bind fun r2 =>
    bif (decide ((r2.1.headD .undef).pv.toInt > (3600000 : Int))) then
      some ([.p (.int .i64 0), .p (.int .i64 3)], [])
    else
      (C 44 [.p (.int .i64 ((r1.1.headD .undef).pv.toInt))] []).bind fun r3 =>
      some ([.p (.int .i64 ((r3.1.headD .undef).pv.toInt)), .p (.int .i64 0)], []) := by kernel_rfl
/- skylanternref27.Tick -/
def S20_111100 (l' : List PV) (time' : Int) (low' : Int) (high' : Int) : St := ⟨(.p (.list true [.int .i64, .int .i64] l')) :: (.p (.int .i64 time')) :: .undef :: .undef :: .undef :: .undef :: (.p (.int .i64 low')) :: (.p (.int .i64 high')) :: List.replicate 24 .undef, []⟩
theorem e20 (C : CallF) (l : List PV) (time : Int) : acallI tab C 20 [.p (.list true [.int .i64, .int .i64] l), .p (.int .i64 time)] [] =
  (C 13 [.p (.list true [.int .i64, .int .i64] l)] []).bind fun r1 =>
  bif (!(r1.1.headD .undef).pv.toBool) then
    some ([.p (.int .i64 0), .p (.int .i64 2)], [])
  else
    (C 35 [.p (.int .i64 time), .p (.int .i64 0), .p (.int .i64 3600000)] []).bind fun r2 =>
    bif (!(r2.1.headD .undef).pv.toBool) then
      some ([.p (.int .i64 0), .p (.int .i64 3)], [])
    else
      L tab C 20 [] [.lp [1, 1, 1, 1, 0, 0]] (S20_111100 l time 0 4194305) := by kernel_rfl
theorem e20_111100 (C : CallF) (l' : List PV) (time' : Int) (low' : Int) (high' : Int) : R tab C 20 [] [.lp [1, 1, 1, 1, 0, 0]] (S20_111100 l' time' low' high') =
  bif (decide ((IntKind.i64.wrap (high' - low')) > (1 : Int))) then
    (C 43 [.p (.list true [.int .i64, .int .i64] l'), .p (.int .i64 (IntKind.i64.wrap ((IntKind.i64.wrap (low' + high')).tdiv (2 : Int))))] []).bind fun r1 =>
    (C 44 [.p (.int .i64 ((r1.1.headD .undef).pv.toInt))] []).bind fun r2 =>
    bif (decide ((r2.1.headD .undef).pv.toInt ≤ time')) then
      L tab C 20 [] [.lp [1, 1, 1, 1, 0, 0]] (S20_111100 l' time' (IntKind.i64.wrap ((IntKind.i64.wrap (low' + high')).tdiv (2 : Int))) high')
    else
      L tab C 20 [] [.lp [1, 1, 1, 1, 0, 0]] (S20_111100 l' time' low' (IntKind.i64.wrap ((IntKind.i64.wrap (low' + high')).tdiv (2 : Int))))
  else
    some ([.p (.int .i64 low'), .p (.int .i64 0)], []) := by kernel_rfl
/- skylanternref27.Nearest -/
def S21_11111100 (l' : List PV) (time' : Int) (step' : Int) (a' : Int) : St := ⟨(.p (.list true [.int .i64, .int .i64] l')) :: (.p (.int .i64 time')) :: (.p (.int .i64 step')) :: .undef :: .undef :: .undef :: .undef :: .undef :: .undef :: .undef :: (.p (.int .i64 a')) :: List.replicate 70 .undef, []⟩
theorem e21 (C : CallF) (l : List PV) (time : Int) (step : Int) : acallI tab C 21 [.p (.list true [.int .i64, .int .i64] l), .p (.int .i64 time), .p (.int .i64 step)] [] =
  (C 13 [.p (.list true [.int .i64, .int .i64] l)] []).bind fun r1 =>
  bif (!(r1.1.headD .undef).pv.toBool) then
    some ([.p (.int .i64 0), .p (.int .i64 2)], [])
  else
    (C 35 [.p (.int .i64 step), .p (.int .i64 1), .p (.int .i64 4194304)] []).bind fun r2 =>
    bif (!(r2.1.headD .undef).pv.toBool) then
      some ([.p (.int .i64 0), .p (.int .i64 2)], [])
    else
      (C 35 [.p (.int .i64 time), .p (.int .i64 0), .p (.int .i64 3600000)] []).bind fun r3 =>
      bif (!(r3.1.headD .undef).pv.toBool) then
        some ([.p (.int .i64 0), .p (.int .i64 3)], [])
      else
        (C 20 [.p (.list true [.int .i64, .int .i64] l), .p (.int .i64 time)] []).bind fun r4 =>
        bif (!(decide (step = (0 : Int)))) then bif (decide ((IntKind.i64.wrap ((IntKind.i64.wrap ((IntKind.i64.wrap (((r4.1.headD .undef).pv.toInt).tdiv step)) * step)) + step)) ≤ (4194304 : Int))) then
          (C 43 [.p (.list true [.int .i64, .int .i64] l), .p (.int .i64 (IntKind.i64.wrap ((IntKind.i64.wrap ((IntKind.i64.wrap (((r4.1.headD .undef).pv.toInt).tdiv step)) * step)) + step)))] []).bind fun r5 =>
          (C 44 [.p (.int .i64 ((r5.1.headD .undef).pv.toInt))] []).bind fun r6 =>
          (C 45 [.p (.int .i64 ((r6.1.headD .undef).pv.toInt)), .p (.int .i64 time)] []).bind fun r7 =>
          (C 43 [.p (.list true [.int .i64, .int .i64] l), .p (.int .i64 (IntKind.i64.wrap ((IntKind.i64.wrap (((r4.1.headD .undef).pv.toInt).tdiv step)) * step)))] []).bind fun r8 =>
          (C 44 [.p (.int .i64 ((r8.1.headD .undef).pv.toInt))] []).bind fun r9 =>
          (C 45 [.p (.int .i64 ((r9.1.headD .undef).pv.toInt)), .p (.int .i64 time)] []).bind fun r10 =>
          bif (decide ((r7.1.headD .undef).pv.toInt < (r10.1.headD .undef).pv.toInt)) then
            L tab C 21 [] [.lp [1, 1, 1, 1, 1, 1, 0, 0]] (S21_11111100 l time step (IntKind.i64.wrap ((IntKind.i64.wrap ((IntKind.i64.wrap (((r4.1.headD .undef).pv.toInt).tdiv step)) * step)) + step)))
          else
            L tab C 21 [] [.lp [1, 1, 1, 1, 1, 1, 0, 0]] (S21_11111100 l time step (IntKind.i64.wrap ((IntKind.i64.wrap (((r4.1.headD .undef).pv.toInt).tdiv step)) * step)))
        else
          L tab C 21 [] [.lp [1, 1, 1, 1, 1, 1, 0, 0]] (S21_11111100 l time step (IntKind.i64.wrap ((IntKind.i64.wrap (((r4.1.headD .undef).pv.toInt).tdiv step)) * step))) else none := by kernel_rfl
theorem e21_11111100 (C : CallF) (l' : List PV) (time' : Int) (step' : Int) (a' : Int) : R tab C 21 [] [.lp [1, 1, 1, 1, 1, 1, 0, 0]] (S21_11111100 l' time' step' a') =
  bif (decide (a' ≥ step')) then
    (C 43 [.p (.list true [.int .i64, .int .i64] l'), .p (.int .i64 (IntKind.i64.wrap (a' - step')))] []).bind fun r1 =>
    (C 44 [.p (.int .i64 ((r1.1.headD .undef).pv.toInt))] []).bind fun r2 =>
    (C 45 [.p (.int .i64 ((r2.1.headD .undef).pv.toInt)), .p (.int .i64 time')] []).bind fun r3 =>
    (C 43 [.p (.list true [.int .i64, .int .i64] l'), .p (.int .i64 a')] []).bind fun r4 =>
    (C 44 [.p (.int .i64 ((r4.1.headD .undef).pv.toInt))] []).bind fun r5 =>
    (C 45 [.p (.int .i64 ((r5.1.headD .undef).pv.toInt)), .p (.int .i64 time')] []).bind fun r6 =>
    bif (decide ((r3.1.headD .undef).pv.toInt ≤ (r6.1.headD .undef).pv.toInt)) then
      L tab C 21 [] [.lp [1, 1, 1, 1, 1, 1, 0, 0]] (S21_11111100 l' time' step' (IntKind.i64.wrap (a' - step')))
    else
      some ([.p (.int .i64 a'), .p (.int .i64 0)], [])
  else
    some ([.p (.int .i64 a'), .p (.int .i64 0)], []) := by kernel_rfl
/- beat.Grid -/
theorem e22 (C : CallF) (l : List PV) (from_ : Int) (to : Int) (step : Int) : acallI tab C 22 [.p (.list true [.int .i64, .int .i64] l), .p (.int .i64 from_), .p (.int .i64 to), .p (.int .i64 step)] [] =
  (C 38 [.p (.list true [.int .i64, .int .i64] l), .p (.int .i64 step), .p (.list false [.int .i64] [.int .i64 from_, .int .i64 to])] []).bind fun r1 =>
  bif ((r1.1.headD .undef).pv.toInt != (0 : Int)) then
    some ([.p (.nilfn), .p (.int .i64 ((r1.1.headD .undef).pv.toInt))], [])
  else
    (C 46 [.p (.list true [.int .i64, .int .i64] l)] []).bind fun r2 =>
    some ([.p (.fn 47 [.ref [.int .i64 step], .ref [.list true [.int .i64, .int .i64] ((((r2.1.headD .undef).freshList).drop 0).take ((r2.1.headD .undef).freshList.length))], .ref [.int .i64 from_], .ref [.int .i64 to]]), .p (.int .i64 0)], []) := by kernel_rfl
/- skylanternref27.Grid -/
def S23_1111010 (l' : List PV) (from_' : Int) (until_' : Int) (step' : Int) (out_o : Nat) (out_l : Nat) (k' : Int) (out_b : List PV) : St := ⟨(.p (.list true [.int .i64, .int .i64] l')) :: (.p (.int .i64 from_')) :: (.p (.int .i64 until_')) :: (.p (.int .i64 step')) :: .undef :: .undef :: .undef :: .undef :: .undef :: .undef :: (.slice 10 2 out_o out_l) :: (.p (.int .i64 k')) :: List.replicate 39 .undef, [(10, .arr true [.int .i64, .int .i64] out_b)]⟩
theorem e23 (C : CallF) (l : List PV) (from_ : Int) (until_ : Int) (step : Int) : acallI tab C 23 [.p (.list true [.int .i64, .int .i64] l), .p (.int .i64 from_), .p (.int .i64 until_), .p (.int .i64 step)] [] =
  (C 13 [.p (.list true [.int .i64, .int .i64] l)] []).bind fun r1 =>
  bif (!(r1.1.headD .undef).pv.toBool) then
    some ([.fresh true [.int .i64, .int .i64] [], .p (.int .i64 2)], [])
  else
    (C 35 [.p (.int .i64 step), .p (.int .i64 1), .p (.int .i64 4194304)] []).bind fun r2 =>
    bif (!(r2.1.headD .undef).pv.toBool) then
      some ([.fresh true [.int .i64, .int .i64] [], .p (.int .i64 2)], [])
    else
      (C 35 [.p (.int .i64 from_), .p (.int .i64 0), .p (.int .i64 3600000)] []).bind fun r3 =>
      bif (!(r3.1.headD .undef).pv.toBool) then
        some ([.fresh true [.int .i64, .int .i64] [], .p (.int .i64 3)], [])
      else
        (C 35 [.p (.int .i64 until_), .p (.int .i64 0), .p (.int .i64 3600000)] []).bind fun r4 =>
        bif (!(r4.1.headD .undef).pv.toBool) then
          some ([.fresh true [.int .i64, .int .i64] [], .p (.int .i64 3)], [])
        else
          L tab C 23 [] [.lp [1, 1, 1, 1, 0, 1, 0]] (S23_1111010 l from_ until_ step 0 0 0 []) := by kernel_rfl
theorem e23_1111010 (C : CallF) (l' : List PV) (from_' : Int) (until_' : Int) (step' : Int) (out_o : Nat) (out_l : Nat) (k' : Int) (out_b : List PV) : R tab C 23 [] [.lp [1, 1, 1, 1, 0, 1, 0]] (S23_1111010 l' from_' until_' step' out_o out_l k' out_b) =
  bif (decide (k' ≤ (4194304 : Int))) then
    (C 43 [.p (.list true [.int .i64, .int .i64] l'), .p (.int .i64 k')] []).bind fun r1 =>
    (C 44 [.p (.int .i64 ((r1.1.headD .undef).pv.toInt))] []).bind fun r2 =>
    bif (decide ((r2.1.headD .undef).pv.toInt ≥ until_')) then
      some ([.fresh true [.int .i64, .int .i64] ((out_b.drop out_o).take out_l), .p (.int .i64 0)], [])
    else
      bif (decide ((r2.1.headD .undef).pv.toInt ≥ from_')) then
        bif (decide ((out_l + 1) ≤ 2147483648)) then L tab C 23 [] [.lp [1, 1, 1, 1, 0, 1, 0]] (S23_1111010 l' from_' until_' step' 0 (out_l + 1) (IntKind.i64.wrap (k' + step')) (((out_b.drop out_o).take out_l) ++ ([.agg [.int .i64 k', .int .i64 ((r2.1.headD .undef).pv.toInt)]] : List PV))) else none
      else
        L tab C 23 [] [.lp [1, 1, 1, 1, 0, 1, 0]] (S23_1111010 l' from_' until_' step' out_o out_l (IntKind.i64.wrap (k' + step')) out_b)
  else
    some ([.fresh true [.int .i64, .int .i64] ((out_b.drop out_o).take out_l), .p (.int .i64 0)], []) := by kernel_rfl
/- beat.Bar -/
theorem e24 (C : CallF) (tick : Int) (beats : Int) : acallI tab C 24 [.p (.int .i64 tick), .p (.int .i64 beats)] [] =
  (C 34 [.p (.int .i64 beats), .p (.int .i64 1), .p (.int .i64 32)] []).bind fun r1 =>
  bif (!(r1.1.headD .undef).pv.toBool) then
    some ([.p (.int .i64 0), .p (.int .i64 0), .p (.int .i64 0), .p (.int .i64 2)], [])
  else
    (C 34 [.p (.int .i64 tick), .p (.int .i64 0), .p (.int .i64 4194304)] []).bind fun r2 =>
    bif (!(r2.1.headD .undef).pv.toBool) then
      some ([.p (.int .i64 0), .p (.int .i64 0), .p (.int .i64 0), .p (.int .i64 3)], [])
    else
      bif (!(decide (beats = (0 : Int)))) then bif (!(decide (beats = (0 : Int)))) then some ([.p (.int .i64 (IntKind.i64.wrap ((IntKind.i64.wrap ((IntKind.i64.wrap (tick.tdiv (480 : Int))).tdiv beats)) + (1 : Int)))), .p (.int .i64 (IntKind.i64.wrap (((IntKind.i64.wrap (tick.tdiv (480 : Int))).tmod beats) + (1 : Int)))), .p (.int .i64 (tick.tmod (480 : Int))), .p (.int .i64 0)], []) else none else none := by kernel_rfl
/- skylanternref27.Bar -/
theorem e25 (C : CallF) (tick : Int) (beats : Int) : acallI tab C 25 [.p (.int .i64 tick), .p (.int .i64 beats)] [] =
  (C 35 [.p (.int .i64 beats), .p (.int .i64 1), .p (.int .i64 32)] []).bind fun r1 =>
  bif (!(r1.1.headD .undef).pv.toBool) then
    some ([.p (.int .i64 0), .p (.int .i64 0), .p (.int .i64 0), .p (.int .i64 2)], [])
  else
    (C 35 [.p (.int .i64 tick), .p (.int .i64 0), .p (.int .i64 4194304)] []).bind fun r2 =>
    bif (!(r2.1.headD .undef).pv.toBool) then
      some ([.p (.int .i64 0), .p (.int .i64 0), .p (.int .i64 0), .p (.int .i64 3)], [])
    else
      bif (!(decide ((IntKind.i64.wrap ((480 : Int) * beats)) = (0 : Int)))) then bif (!(decide (beats = (0 : Int)))) then some ([.p (.int .i64 (IntKind.i64.wrap ((IntKind.i64.wrap (tick.tdiv (IntKind.i64.wrap ((480 : Int) * beats)))) + (1 : Int)))), .p (.int .i64 (IntKind.i64.wrap (((IntKind.i64.wrap (tick.tdiv (480 : Int))).tmod beats) + (1 : Int)))), .p (.int .i64 (tick.tmod (480 : Int))), .p (.int .i64 0)], []) else none else none := by kernel_rfl
/- beat.Text -/
theorem e26 (C : CallF) (tick : Int) (beats : Int) : acallI tab C 26 [.p (.int .i64 tick), .p (.int .i64 beats)] [] =
  (C 24 [.p (.int .i64 tick), .p (.int .i64 beats)] []).bind fun r1 =>
  bif ((r1.1.tail.tail.tail.headD .undef).pv.toInt != (0 : Int)) then
    some ([.p (.str ⟨#[]⟩), .p (.int .i64 ((r1.1.tail.tail.tail.headD .undef).pv.toInt))], [])
  else
    (C 49 [.p (.int .i64 ((r1.1.headD .undef).pv.toInt))] []).bind fun r2 =>
    bif (decide (((r2.1.headD .undef).pv.toStr).size + (⟨#[46]⟩ : ByteArray).size ≤ 4611686018427387904)) then (C 49 [.p (.int .i64 ((r1.1.tail.headD .undef).pv.toInt))] []).bind fun r3 =>
    bif (decide (((r2.1.headD .undef).pv.toStr ++ (⟨#[46]⟩ : ByteArray)).size + ((r3.1.headD .undef).pv.toStr).size ≤ 4611686018427387904)) then bif (decide ((((r2.1.headD .undef).pv.toStr ++ (⟨#[46]⟩ : ByteArray)) ++ (r3.1.headD .undef).pv.toStr).size + (⟨#[46]⟩ : ByteArray).size ≤ 4611686018427387904)) then (C 49 [.p (.int .i64 ((r1.1.tail.tail.headD .undef).pv.toInt))] []).bind fun r4 =>
    bif (decide (((((r2.1.headD .undef).pv.toStr ++ (⟨#[46]⟩ : ByteArray)) ++ (r3.1.headD .undef).pv.toStr) ++ (⟨#[46]⟩ : ByteArray)).size + ((r4.1.headD .undef).pv.toStr).size ≤ 4611686018427387904)) then some ([.p (.str (((((r2.1.headD .undef).pv.toStr ++ (⟨#[46]⟩ : ByteArray)) ++ (r3.1.headD .undef).pv.toStr) ++ (⟨#[46]⟩ : ByteArray)) ++ (r4.1.headD .undef).pv.toStr)), .p (.int .i64 0)], []) else none else none else none else none := by kernel_rfl
/- skylanternref27.Text -/
theorem e27 (C : CallF) (tick : Int) (beats : Int) : acallI tab C 27 [.p (.int .i64 tick), .p (.int .i64 beats)] [] =
  (C 25 [.p (.int .i64 tick), .p (.int .i64 beats)] []).bind fun r1 =>
  bif ((r1.1.tail.tail.tail.headD .undef).pv.toInt != (0 : Int)) then
    some ([.p (.str ⟨#[]⟩), .p (.int .i64 ((r1.1.tail.tail.tail.headD .undef).pv.toInt))], [])
  else
    (C 50 [.p (.int .i64 ((r1.1.headD .undef).pv.toInt))] []).bind fun r2 =>
    bif (decide (((r2.1.headD .undef).pv.toStr).size + (⟨#[46]⟩ : ByteArray).size ≤ 4611686018427387904)) then (C 50 [.p (.int .i64 ((r1.1.tail.headD .undef).pv.toInt))] []).bind fun r3 =>
    bif (decide (((r2.1.headD .undef).pv.toStr ++ (⟨#[46]⟩ : ByteArray)).size + ((r3.1.headD .undef).pv.toStr).size ≤ 4611686018427387904)) then bif (decide ((((r2.1.headD .undef).pv.toStr ++ (⟨#[46]⟩ : ByteArray)) ++ (r3.1.headD .undef).pv.toStr).size + (⟨#[46]⟩ : ByteArray).size ≤ 4611686018427387904)) then (C 50 [.p (.int .i64 ((r1.1.tail.tail.headD .undef).pv.toInt))] []).bind fun r4 =>
    bif (decide (((((r2.1.headD .undef).pv.toStr ++ (⟨#[46]⟩ : ByteArray)) ++ (r3.1.headD .undef).pv.toStr) ++ (⟨#[46]⟩ : ByteArray)).size + ((r4.1.headD .undef).pv.toStr).size ≤ 4611686018427387904)) then some ([.p (.str (((((r2.1.headD .undef).pv.toStr ++ (⟨#[46]⟩ : ByteArray)) ++ (r3.1.headD .undef).pv.toStr) ++ (⟨#[46]⟩ : ByteArray)) ++ (r4.1.headD .undef).pv.toStr)), .p (.int .i64 0)], []) else none else none else none else none := by kernel_rfl
/- beat.FromBar -/
theorem e28 (C : CallF) (bar : Int) (beat : Int) (rest : Int) (beats : Int) : acallI tab C 28 [.p (.int .i64 bar), .p (.int .i64 beat), .p (.int .i64 rest), .p (.int .i64 beats)] [] =
  (C 34 [.p (.int .i64 beats), .p (.int .i64 1), .p (.int .i64 32)] []).bind fun r1 =>
  bif (!(r1.1.headD .undef).pv.toBool) then
    some ([.p (.int .i64 0), .p (.int .i64 2)], [])
  else
    (C 34 [.p (.int .i64 bar), .p (.int .i64 1), .p (.int .i64 4194304)] []).bind fun r2 =>
    bif (!(r2.1.headD .undef).pv.toBool) then
      some ([.p (.int .i64 0), .p (.int .i64 3)], [])
    else
      (C 34 [.p (.int .i64 beat), .p (.int .i64 1), .p (.int .i64 beats)] []).bind fun r3 =>
      bif (!(r3.1.headD .undef).pv.toBool) then
        some ([.p (.int .i64 0), .p (.int .i64 3)], [])
      else
        (C 34 [.p (.int .i64 rest), .p (.int .i64 0), .p (.int .i64 479)] []).bind fun r4 =>
        bif (!(r4.1.headD .undef).pv.toBool) then
          some ([.p (.int .i64 0), .p (.int .i64 3)], [])
        else
          bif (decide ((IntKind.i64.wrap ((IntKind.i64.wrap ((IntKind.i64.wrap ((IntKind.i64.wrap ((IntKind.i64.wrap ((IntKind.i64.wrap (bar - (1 : Int))) * beats)) + beat)) - (1 : Int))) * (480 : Int))) + rest)) > (4194304 : Int))) then
            some ([.p (.int .i64 0), .p (.int .i64 3)], [])
          else
            some ([.p (.int .i64 (IntKind.i64.wrap ((IntKind.i64.wrap ((IntKind.i64.wrap ((IntKind.i64.wrap ((IntKind.i64.wrap ((IntKind.i64.wrap (bar - (1 : Int))) * beats)) + beat)) - (1 : Int))) * (480 : Int))) + rest))), .p (.int .i64 0)], []) := by kernel_rfl
/- skylanternref27.FromBar -/
theorem e29 (C : CallF) (bar : Int) (beat : Int) (rest : Int) (beats : Int) : acallI tab C 29 [.p (.int .i64 bar), .p (.int .i64 beat), .p (.int .i64 rest), .p (.int .i64 beats)] [] =
  (C 35 [.p (.int .i64 beats), .p (.int .i64 1), .p (.int .i64 32)] []).bind fun r1 =>
  bif (!(r1.1.headD .undef).pv.toBool) then
    some ([.p (.int .i64 0), .p (.int .i64 2)], [])
  else
    (C 35 [.p (.int .i64 bar), .p (.int .i64 1), .p (.int .i64 4194304)] []).bind fun r2 =>
    bif (!(r2.1.headD .undef).pv.toBool) then
      some ([.p (.int .i64 0), .p (.int .i64 3)], [])
    else
      (C 35 [.p (.int .i64 beat), .p (.int .i64 1), .p (.int .i64 beats)] []).bind fun r3 =>
      bif (!(r3.1.headD .undef).pv.toBool) then
        some ([.p (.int .i64 0), .p (.int .i64 3)], [])
      else
        (C 35 [.p (.int .i64 rest), .p (.int .i64 0), .p (.int .i64 479)] []).bind fun r4 =>
        bif (!(r4.1.headD .undef).pv.toBool) then
          some ([.p (.int .i64 0), .p (.int .i64 3)], [])
        else
          bif (decide ((IntKind.i64.wrap ((IntKind.i64.wrap ((IntKind.i64.wrap ((IntKind.i64.wrap ((IntKind.i64.wrap ((IntKind.i64.wrap (bar - (1 : Int))) * beats)) + beat)) - (1 : Int))) * (480 : Int))) + rest)) > (4194304 : Int))) then
            some ([.p (.int .i64 0), .p (.int .i64 3)], [])
          else
            some ([.p (.int .i64 (IntKind.i64.wrap ((IntKind.i64.wrap ((IntKind.i64.wrap ((IntKind.i64.wrap ((IntKind.i64.wrap ((IntKind.i64.wrap (bar - (1 : Int))) * beats)) + beat)) - (1 : Int))) * (480 : Int))) + rest))), .p (.int .i64 0)], []) := by kernel_rfl
/- beat.Parse -/
def S30_111010 (beats' : Int) (n__o : Nat) (n__l : Nat) (t17_o : Nat) (t17_l : Nat) (t18' : Int) (t19' : Int) (n_b : List PV) (b17_b : List PV) : St := ⟨.undef :: (.p (.int .i64 beats')) :: .undef :: .undef :: .undef :: .undef :: (.slice 6 1 n__o n__l) :: .undef :: .undef :: .undef :: .undef :: .undef :: .undef :: .undef :: .undef :: .undef :: .undef :: (.slice 17 1 t17_o t17_l) :: (.p (.int .i64 t18')) :: (.p (.int .i64 t19')) :: List.replicate 41 .undef, [(6, .arr false [.int .i64] n_b), (17, .arr false [.str] b17_b)]⟩
theorem e30 (C : CallF) (s : ByteArray) (beats : Int) : acallI tab C 30 [.p (.str s), .p (.int .i64 beats)] [] =
  (C 34 [.p (.int .i64 beats), .p (.int .i64 1), .p (.int .i64 32)] []).bind fun r1 =>
  bif (!(r1.1.headD .undef).pv.toBool) then
    some ([.p (.int .i64 0), .p (.int .i64 2)], [])
  else
    (C 51 [.p (.str s), .p (.str ⟨#[46]⟩)] []).bind fun r2 =>
    L tab C 30 [] [.lp [1, 1, 1, 0, 1, 0]] (S30_111010 beats 0 0 0 ((r2.1.headD .undef).freshList.length) (((r2.1.headD .undef).freshList.length : Nat) : Int) 0 [] ((r2.1.headD .undef).freshList)) := by kernel_rfl
theorem e30_111010 (C : CallF) (beats' : Int) (n__o : Nat) (n__l : Nat) (t17_o : Nat) (t17_l : Nat) (t18' : Int) (t19' : Int) (n_b : List PV) (b17_b : List PV) : R tab C 30 [] [.lp [1, 1, 1, 0, 1, 0]] (S30_111010 beats' n__o n__l t17_o t17_l t18' t19' n_b b17_b) =
  bif (decide (t19' < t18')) then
    bif ((decide ((0 : Int) ≤ t19')) && (decide (t19' < (t17_l : Int)))) then (C 52 [.p (.str (((b17_b.getD (t17_o + t19'.toNat) .nil).cell 0).toStr))] []).bind fun r1 =>
    bif (true && (r1.1.tail.headD .undef).pv.isI) then bif (!(r1.1.tail.headD .undef).pv.isNilI) then
      some ([.p (.int .i64 0), .p (.int .i64 6)], [])
    else
      (C 49 [.p (.int .i64 ((r1.1.headD .undef).pv.toInt))] []).bind fun r2 =>
      bif (!(((r2.1.headD .undef).pv.toStr).toList == (((b17_b.getD (t17_o + t19'.toNat) .nil).cell 0).toStr).toList)) then
        some ([.p (.int .i64 0), .p (.int .i64 6)], [])
      else
        bif (decide ((n__l + 1) ≤ 2147483648)) then L tab C 30 [] [.lp [1, 1, 1, 0, 1, 0]] (S30_111010 beats' 0 (n__l + 1) t17_o t17_l t18' (IntKind.i64.wrap (t19' + (1 : Int))) (((n_b.drop n__o).take n__l) ++ ([.int .i64 ((r1.1.headD .undef).pv.toInt)] : List PV)) b17_b) else none else none else none
  else
    bif ((n__l : Int) != (3 : Int)) then
      some ([.p (.int .i64 0), .p (.int .i64 6)], [])
    else
      bif (decide ((0 : Int) < (n__l : Int))) then bif (decide ((1 : Int) < (n__l : Int))) then bif (decide ((2 : Int) < (n__l : Int))) then (C 28 [.p (.int .i64 (((n_b.getD (n__o + 0) .nil).cell 0).toInt)), .p (.int .i64 (((n_b.getD (n__o + 1) .nil).cell 0).toInt)), .p (.int .i64 (((n_b.getD (n__o + 2) .nil).cell 0).toInt)), .p (.int .i64 beats')] []).bind fun r3 =>
      bif ((r3.1.tail.headD .undef).pv.toInt != (0 : Int)) then
        some ([.p (.int .i64 0), .p (.int .i64 6)], [])
      else
        some ([.p (.int .i64 ((r3.1.headD .undef).pv.toInt)), .p (.int .i64 0)], []) else none else none else none := by kernel_rfl
/- skylanternref27.Parse -/
def S31_1111010 (s' : ByteArray) (beats' : Int) (part' : Int) (i' : Int) (n_b0 : Int) (n_b1 : Int) (n_b2 : Int) : St := ⟨(.p (.str s')) :: (.p (.int .i64 beats')) :: .undef :: .undef :: .undef :: .undef :: (.ptr 6 0 0) :: (.p (.int .i64 part')) :: (.p (.int .i64 i')) :: List.replicate 72 .undef, [(6, .box [.p (.int .i64 n_b0), .p (.int .i64 n_b1), .p (.int .i64 n_b2)])]⟩
theorem e31 (C : CallF) (s : ByteArray) (beats : Int) : acallI tab C 31 [.p (.str s), .p (.int .i64 beats)] [] =
  (C 35 [.p (.int .i64 beats), .p (.int .i64 1), .p (.int .i64 32)] []).bind fun r1 =>
  bif (!(r1.1.headD .undef).pv.toBool) then
    some ([.p (.int .i64 0), .p (.int .i64 2)], [])
  else
    L tab C 31 [] [.lp [1, 1, 1, 1, 0, 1, 0]] (S31_1111010 s beats 0 0 0 0 0) := by kernel_rfl
theorem e31_1111010 (C : CallF) (s' : ByteArray) (beats' : Int) (part' : Int) (i' : Int) (n_b0 : Int) (n_b1 : Int) (n_b2 : Int) : R tab C 31 [] [.lp [1, 1, 1, 1, 0, 1, 0]] (S31_1111010 s' beats' part' i' n_b0 n_b1 n_b2) =
  bif (decide (i' < ((s'.size : Nat) : Int))) then
    bif ((decide ((0 : Int) ≤ i')) && (decide (i' < (s'.size : Int)))) then bif (((s'.data.getD i'.toNat 0).toNat : Int) == (46 : Int)) then
      bif (decide ((IntKind.i64.wrap (part' + (1 : Int))) > (2 : Int))) then
        some ([.p (.int .i64 0), .p (.int .i64 6)], [])
      else
        bif ((decide ((0 : Int) ≤ i')) && (decide (i' < (s'.size : Int)))) then bif (((s'.data.getD i'.toNat 0).toNat : Int) != (46 : Int)) then
          bif ((decide ((0 : Int) ≤ (IntKind.i64.wrap (part' + (1 : Int))))) && (decide ((IntKind.i64.wrap (part' + (1 : Int))) < (3 : Int)))) then bif (decide ((IntKind.i64.wrap (part' + (1 : Int))) = 0)) then
            bif ((decide ((0 : Int) ≤ i')) && (decide (i' < (s'.size : Int)))) then bif ((decide ((0 : Int) ≤ (IntKind.i64.wrap (part' + (1 : Int))))) && (decide ((IntKind.i64.wrap (part' + (1 : Int))) < (3 : Int)))) then bif (decide ((IntKind.i64.wrap (part' + (1 : Int))) = 0)) then
              L tab C 31 [] [.lp [1, 1, 1, 1, 0, 1, 0]] (S31_1111010 s' beats' (IntKind.i64.wrap (part' + (1 : Int))) (IntKind.i64.wrap (i' + (1 : Int))) (goMin 9999999 (IntKind.i64.wrap ((IntKind.i64.wrap ((10 : Int) * n_b0)) + (IntKind.i64.wrap (IntKind.u8.wrap (((s'.data.getD i'.toNat 0).toNat : Int) - (48 : Int))))))) n_b1 n_b2)
            else
              bif (decide ((IntKind.i64.wrap (part' + (1 : Int))) = 1)) then
                L tab C 31 [] [.lp [1, 1, 1, 1, 0, 1, 0]] (S31_1111010 s' beats' (IntKind.i64.wrap (part' + (1 : Int))) (IntKind.i64.wrap (i' + (1 : Int))) n_b0 (goMin 9999999 (IntKind.i64.wrap ((IntKind.i64.wrap ((10 : Int) * n_b0)) + (IntKind.i64.wrap (IntKind.u8.wrap (((s'.data.getD i'.toNat 0).toNat : Int) - (48 : Int))))))) n_b2)
              else
                bif (decide ((IntKind.i64.wrap (part' + (1 : Int))) = 2)) then L tab C 31 [] [.lp [1, 1, 1, 1, 0, 1, 0]] (S31_1111010 s' beats' (IntKind.i64.wrap (part' + (1 : Int))) (IntKind.i64.wrap (i' + (1 : Int))) n_b0 n_b1 (goMin 9999999 (IntKind.i64.wrap ((IntKind.i64.wrap ((10 : Int) * n_b0)) + (IntKind.i64.wrap (IntKind.u8.wrap (((s'.data.getD i'.toNat 0).toNat : Int) - (48 : Int)))))))) else none else none else none
          else
            bif (decide ((IntKind.i64.wrap (part' + (1 : Int))) = 1)) then
              bif ((decide ((0 : Int) ≤ i')) && (decide (i' < (s'.size : Int)))) then bif ((decide ((0 : Int) ≤ (IntKind.i64.wrap (part' + (1 : Int))))) && (decide ((IntKind.i64.wrap (part' + (1 : Int))) < (3 : Int)))) then bif (decide ((IntKind.i64.wrap (part' + (1 : Int))) = 0)) then
                L tab C 31 [] [.lp [1, 1, 1, 1, 0, 1, 0]] (S31_1111010 s' beats' (IntKind.i64.wrap (part' + (1 : Int))) (IntKind.i64.wrap (i' + (1 : Int))) (goMin 9999999 (IntKind.i64.wrap ((IntKind.i64.wrap ((10 : Int) * n_b1)) + (IntKind.i64.wrap (IntKind.u8.wrap (((s'.data.getD i'.toNat 0).toNat : Int) - (48 : Int))))))) n_b1 n_b2)
              else
                bif (decide ((IntKind.i64.wrap (part' + (1 : Int))) = 1)) then
                  L tab C 31 [] [.lp [1, 1, 1, 1, 0, 1, 0]] (S31_1111010 s' beats' (IntKind.i64.wrap (part' + (1 : Int))) (IntKind.i64.wrap (i' + (1 : Int))) n_b0 (goMin 9999999 (IntKind.i64.wrap ((IntKind.i64.wrap ((10 : Int) * n_b1)) + (IntKind.i64.wrap (IntKind.u8.wrap (((s'.data.getD i'.toNat 0).toNat : Int) - (48 : Int))))))) n_b2)
                else
                  bif (decide ((IntKind.i64.wrap (part' + (1 : Int))) = 2)) then L tab C 31 [] [.lp [1, 1, 1, 1, 0, 1, 0]] (S31_1111010 s' beats' (IntKind.i64.wrap (part' + (1 : Int))) (IntKind.i64.wrap (i' + (1 : Int))) n_b0 n_b1 (goMin 9999999 (IntKind.i64.wrap ((IntKind.i64.wrap ((10 : Int) * n_b1)) + (IntKind.i64.wrap (IntKind.u8.wrap (((s'.data.getD i'.toNat 0).toNat : Int) - (48 : Int)))))))) else none else none else none
            else
              bif (decide ((IntKind.i64.wrap (part' + (1 : Int))) = 2)) then bif ((decide ((0 : Int) ≤ i')) && (decide (i' < (s'.size : Int)))) then bif ((decide ((0 : Int) ≤ (IntKind.i64.wrap (part' + (1 : Int))))) && (decide ((IntKind.i64.wrap (part' + (1 : Int))) < (3 : Int)))) then bif (decide ((IntKind.i64.wrap (part' + (1 : Int))) = 0)) then
                L tab C 31 [] [.lp [1, 1, 1, 1, 0, 1, 0]] (S31_1111010 s' beats' (IntKind.i64.wrap (part' + (1 : Int))) (IntKind.i64.wrap (i' + (1 : Int))) (goMin 9999999 (IntKind.i64.wrap ((IntKind.i64.wrap ((10 : Int) * n_b2)) + (IntKind.i64.wrap (IntKind.u8.wrap (((s'.data.getD i'.toNat 0).toNat : Int) - (48 : Int))))))) n_b1 n_b2)
              else
                bif (decide ((IntKind.i64.wrap (part' + (1 : Int))) = 1)) then
                  L tab C 31 [] [.lp [1, 1, 1, 1, 0, 1, 0]] (S31_1111010 s' beats' (IntKind.i64.wrap (part' + (1 : Int))) (IntKind.i64.wrap (i' + (1 : Int))) n_b0 (goMin 9999999 (IntKind.i64.wrap ((IntKind.i64.wrap ((10 : Int) * n_b2)) + (IntKind.i64.wrap (IntKind.u8.wrap (((s'.data.getD i'.toNat 0).toNat : Int) - (48 : Int))))))) n_b2)
                else
                  bif (decide ((IntKind.i64.wrap (part' + (1 : Int))) = 2)) then L tab C 31 [] [.lp [1, 1, 1, 1, 0, 1, 0]] (S31_1111010 s' beats' (IntKind.i64.wrap (part' + (1 : Int))) (IntKind.i64.wrap (i' + (1 : Int))) n_b0 n_b1 (goMin 9999999 (IntKind.i64.wrap ((IntKind.i64.wrap ((10 : Int) * n_b2)) + (IntKind.i64.wrap (IntKind.u8.wrap (((s'.data.getD i'.toNat 0).toNat : Int) - (48 : Int)))))))) else none else none else none else none else none
        else
          L tab C 31 [] [.lp [1, 1, 1, 1, 0, 1, 0]] (S31_1111010 s' beats' (IntKind.i64.wrap (part' + (1 : Int))) (IntKind.i64.wrap (i' + (1 : Int))) n_b0 n_b1 n_b2) else none
    else
      bif ((decide ((0 : Int) ≤ i')) && (decide (i' < (s'.size : Int)))) then bif (decide (((s'.data.getD i'.toNat 0).toNat : Int) < (48 : Int))) then
        some ([.p (.int .i64 0), .p (.int .i64 6)], [])
      else
        bif ((decide ((0 : Int) ≤ i')) && (decide (i' < (s'.size : Int)))) then bif (decide (((s'.data.getD i'.toNat 0).toNat : Int) > (57 : Int))) then
          some ([.p (.int .i64 0), .p (.int .i64 6)], [])
        else
          bif (decide (part' > (2 : Int))) then
            some ([.p (.int .i64 0), .p (.int .i64 6)], [])
          else
            bif ((decide ((0 : Int) ≤ i')) && (decide (i' < (s'.size : Int)))) then bif (((s'.data.getD i'.toNat 0).toNat : Int) != (46 : Int)) then
              bif ((decide ((0 : Int) ≤ part')) && (decide (part' < (3 : Int)))) then bif (decide (part' = 0)) then
                bif ((decide ((0 : Int) ≤ i')) && (decide (i' < (s'.size : Int)))) then bif ((decide ((0 : Int) ≤ part')) && (decide (part' < (3 : Int)))) then bif (decide (part' = 0)) then
                  L tab C 31 [] [.lp [1, 1, 1, 1, 0, 1, 0]] (S31_1111010 s' beats' part' (IntKind.i64.wrap (i' + (1 : Int))) (goMin 9999999 (IntKind.i64.wrap ((IntKind.i64.wrap ((10 : Int) * n_b0)) + (IntKind.i64.wrap (IntKind.u8.wrap (((s'.data.getD i'.toNat 0).toNat : Int) - (48 : Int))))))) n_b1 n_b2)
                else
                  bif (decide (part' = 1)) then
                    L tab C 31 [] [.lp [1, 1, 1, 1, 0, 1, 0]] (S31_1111010 s' beats' part' (IntKind.i64.wrap (i' + (1 : Int))) n_b0 (goMin 9999999 (IntKind.i64.wrap ((IntKind.i64.wrap ((10 : Int) * n_b0)) + (IntKind.i64.wrap (IntKind.u8.wrap (((s'.data.getD i'.toNat 0).toNat : Int) - (48 : Int))))))) n_b2)
                  else
                    bif (decide (part' = 2)) then L tab C 31 [] [.lp [1, 1, 1, 1, 0, 1, 0]] (S31_1111010 s' beats' part' (IntKind.i64.wrap (i' + (1 : Int))) n_b0 n_b1 (goMin 9999999 (IntKind.i64.wrap ((IntKind.i64.wrap ((10 : Int) * n_b0)) + (IntKind.i64.wrap (IntKind.u8.wrap (((s'.data.getD i'.toNat 0).toNat : Int) - (48 : Int)))))))) else none else none else none
              else
                bif (decide (part' = 1)) then
                  bif ((decide ((0 : Int) ≤ i')) && (decide (i' < (s'.size : Int)))) then bif ((decide ((0 : Int) ≤ part')) && (decide (part' < (3 : Int)))) then bif (decide (part' = 0)) then
                    L tab C 31 [] [.lp [1, 1, 1, 1, 0, 1, 0]] (S31_1111010 s' beats' part' (IntKind.i64.wrap (i' + (1 : Int))) (goMin 9999999 (IntKind.i64.wrap ((IntKind.i64.wrap ((10 : Int) * n_b1)) + (IntKind.i64.wrap (IntKind.u8.wrap (((s'.data.getD i'.toNat 0).toNat : Int) - (48 : Int))))))) n_b1 n_b2)
                  else
                    bif (decide (part' = 1)) then
                      L tab C 31 [] [.lp [1, 1, 1, 1, 0, 1, 0]] (S31_1111010 s' beats' part' (IntKind.i64.wrap (i' + (1 : Int))) n_b0 (goMin 9999999 (IntKind.i64.wrap ((IntKind.i64.wrap ((10 : Int) * n_b1)) + (IntKind.i64.wrap (IntKind.u8.wrap (((s'.data.getD i'.toNat 0).toNat : Int) - (48 : Int))))))) n_b2)
                    else
                      bif (decide (part' = 2)) then L tab C 31 [] [.lp [1, 1, 1, 1, 0, 1, 0]] (S31_1111010 s' beats' part' (IntKind.i64.wrap (i' + (1 : Int))) n_b0 n_b1 (goMin 9999999 (IntKind.i64.wrap ((IntKind.i64.wrap ((10 : Int) * n_b1)) + (IntKind.i64.wrap (IntKind.u8.wrap (((s'.data.getD i'.toNat 0).toNat : Int) - (48 : Int)))))))) else none else none else none
                else
                  bif (decide (part' = 2)) then bif ((decide ((0 : Int) ≤ i')) && (decide (i' < (s'.size : Int)))) then bif ((decide ((0 : Int) ≤ part')) && (decide (part' < (3 : Int)))) then bif (decide (part' = 0)) then
                    L tab C 31 [] [.lp [1, 1, 1, 1, 0, 1, 0]] (S31_1111010 s' beats' part' (IntKind.i64.wrap (i' + (1 : Int))) (goMin 9999999 (IntKind.i64.wrap ((IntKind.i64.wrap ((10 : Int) * n_b2)) + (IntKind.i64.wrap (IntKind.u8.wrap (((s'.data.getD i'.toNat 0).toNat : Int) - (48 : Int))))))) n_b1 n_b2)
                  else
                    bif (decide (part' = 1)) then
                      L tab C 31 [] [.lp [1, 1, 1, 1, 0, 1, 0]] (S31_1111010 s' beats' part' (IntKind.i64.wrap (i' + (1 : Int))) n_b0 (goMin 9999999 (IntKind.i64.wrap ((IntKind.i64.wrap ((10 : Int) * n_b2)) + (IntKind.i64.wrap (IntKind.u8.wrap (((s'.data.getD i'.toNat 0).toNat : Int) - (48 : Int))))))) n_b2)
                    else
                      bif (decide (part' = 2)) then L tab C 31 [] [.lp [1, 1, 1, 1, 0, 1, 0]] (S31_1111010 s' beats' part' (IntKind.i64.wrap (i' + (1 : Int))) n_b0 n_b1 (goMin 9999999 (IntKind.i64.wrap ((IntKind.i64.wrap ((10 : Int) * n_b2)) + (IntKind.i64.wrap (IntKind.u8.wrap (((s'.data.getD i'.toNat 0).toNat : Int) - (48 : Int)))))))) else none else none else none else none else none
            else
              L tab C 31 [] [.lp [1, 1, 1, 1, 0, 1, 0]] (S31_1111010 s' beats' part' (IntKind.i64.wrap (i' + (1 : Int))) n_b0 n_b1 n_b2) else none else none else none else none
  else
    (C 29 [.p (.int .i64 n_b0), .p (.int .i64 n_b1), .p (.int .i64 n_b2), .p (.int .i64 beats')] []).bind fun r1 =>
    bif ((r1.1.tail.headD .undef).pv.toInt != (0 : Int)) then
      some ([.p (.int .i64 0), .p (.int .i64 6)], [])
    else
      (C 27 [.p (.int .i64 ((r1.1.headD .undef).pv.toInt)), .p (.int .i64 beats')] []).bind fun r2 =>
      bif (!(((r2.1.headD .undef).pv.toStr).toList == s'.toList)) then
        some ([.p (.int .i64 0), .p (.int .i64 6)], [])
      else
        some ([.p (.int .i64 ((r1.1.headD .undef).pv.toInt)), .p (.int .i64 0)], []) := by kernel_rfl
/- skylanternlaw27.sample -/
theorem e32 (C : CallF)  : acallI tab C 32 [] [] =
  some ([.fresh true [.int .i64, .int .i64] [.agg [.int .i64 0, .int .i64 500000], .agg [.int .i64 960, .int .i64 250000]]], []) := by kernel_rfl
/- skylanternlaw27.is -/
theorem e33 (C : CallF) (n_ : Int) (e_ : Int) (want : Int) : acallI tab C 33 [.p (.int .i64 n_), .p (.int .i64 e_), .p (.int .i64 want)] [] =
  bif (e_ == (0 : Int)) then
    some ([.p (.bool (n_ == want))], [])
  else
    some ([.p (.bool false)], []) := by kernel_rfl
/- beat.within -/
theorem e34 (C : CallF) (n_ : Int) (low : Int) (high : Int) : acallI tab C 34 [.p (.int .i64 n_), .p (.int .i64 low), .p (.int .i64 high)] [] =
  bif (decide (low ≤ n_)) then
    some ([.p (.bool (decide (n_ ≤ high)))], [])
  else
    some ([.p (.bool false)], []) := by kernel_rfl
/- skylanternref27.to -/
theorem e35 (C : CallF) (n_ : Int) (low : Int) (high : Int) : acallI tab C 35 [.p (.int .i64 n_), .p (.int .i64 low), .p (.int .i64 high)] [] =
  bif (decide (n_ ≥ low)) then
    some ([.p (.bool (decide (n_ ≤ high)))], [])
  else
    some ([.p (.bool false)], []) := by kernel_rfl
/- beat.exact -/
def S36_11010 (l' : List PV) (tick' : Int) (sum' : Int) (at_' : Int) (t11' : List PV) (t12' : Int) (t13' : Int) : St := ⟨(.p (.list true [.int .i64, .int .i64] l')) :: (.p (.int .i64 tick')) :: .undef :: .undef :: .undef :: (.p (.int .i64 sum')) :: (.p (.int .i64 at_')) :: .undef :: .undef :: .undef :: .undef :: (.p (.list true [.int .i64, .int .i64] t11')) :: (.p (.int .i64 t12')) :: (.p (.int .i64 t13')) :: List.replicate 45 .undef, []⟩
theorem e36 (C : CallF) (l : List PV) (tick : Int) : acallI tab C 36 [.p (.list true [.int .i64, .int .i64] l), .p (.int .i64 tick)] [] =
  L tab C 36 [] [.lp [1, 1, 0, 1, 0]] (S36_11010 l tick 0 0 l ((l.length : Nat) : Int) 0) := by kernel_rfl
theorem e36_11010 (C : CallF) (l' : List PV) (tick' : Int) (sum' : Int) (at_' : Int) (t11' : List PV) (t12' : Int) (t13' : Int) : R tab C 36 [] [.lp [1, 1, 0, 1, 0]] (S36_11010 l' tick' sum' at_' t11' t12' t13') =
  bif (decide (t13' < t12')) then
    bif ((decide ((0 : Int) ≤ t13')) && (decide (t13' < ((t11'.length : Nat) : Int)))) then bif (decide (t13' > (0 : Int))) then
      bif (decide (((t11'.getD t13'.toNat .nil).cell 0).toInt ≥ tick')) then
        (C 53 [.p (.list true [.int .i64, .int .i64] l'), .p (.int .i64 tick'), .p (.fn 54 [])] []).bind fun r1 =>
        bif ((decide ((0 : Int) ≤ (goMax 0 (IntKind.i64.wrap ((r1.1.headD .undef).pv.toInt - (1 : Int)))))) && (decide ((goMax 0 (IntKind.i64.wrap ((r1.1.headD .undef).pv.toInt - (1 : Int)))) < ((l'.length : Nat) : Int)))) then some ([.p (.int .i64 (IntKind.i64.wrap (sum' + (IntKind.i64.wrap ((IntKind.i64.wrap (tick' - at_')) * ((l'.getD ((goMax 0 (IntKind.i64.wrap ((r1.1.headD .undef).pv.toInt - (1 : Int)))).toNat) .nil).cell 1).toInt)))))], []) else none
      else
        bif ((decide ((0 : Int) ≤ (IntKind.i64.wrap (t13' - (1 : Int))))) && (decide ((IntKind.i64.wrap (t13' - (1 : Int))) < ((l'.length : Nat) : Int)))) then L tab C 36 [] [.lp [1, 1, 0, 1, 0]] (S36_11010 l' tick' (IntKind.i64.wrap (sum' + (IntKind.i64.wrap ((IntKind.i64.wrap (((t11'.getD t13'.toNat .nil).cell 0).toInt - at_')) * ((l'.getD ((IntKind.i64.wrap (t13' - (1 : Int))).toNat) .nil).cell 1).toInt)))) (((t11'.getD t13'.toNat .nil).cell 0).toInt) t11' t12' (IntKind.i64.wrap (t13' + (1 : Int)))) else none
    else
      L tab C 36 [] [.lp [1, 1, 0, 1, 0]] (S36_11010 l' tick' sum' at_' t11' t12' (IntKind.i64.wrap (t13' + (1 : Int)))) else none
  else
    (C 53 [.p (.list true [.int .i64, .int .i64] l'), .p (.int .i64 tick'), .p (.fn 54 [])] []).bind fun r2 =>
    bif ((decide ((0 : Int) ≤ (goMax 0 (IntKind.i64.wrap ((r2.1.headD .undef).pv.toInt - (1 : Int)))))) && (decide ((goMax 0 (IntKind.i64.wrap ((r2.1.headD .undef).pv.toInt - (1 : Int)))) < ((l'.length : Nat) : Int)))) then some ([.p (.int .i64 (IntKind.i64.wrap (sum' + (IntKind.i64.wrap ((IntKind.i64.wrap (tick' - at_')) * ((l'.getD ((goMax 0 (IntKind.i64.wrap ((r2.1.headD .undef).pv.toInt - (1 : Int)))).toNat) .nil).cell 1).toInt)))))], []) else none := by kernel_rfl
/- beat.time -/
theorem e37 (C : CallF) (l : List PV) (tick : Int) : acallI tab C 37 [.p (.list true [.int .i64, .int .i64] l), .p (.int .i64 tick)] [] =
  (C 36 [.p (.list true [.int .i64, .int .i64] l), .p (.int .i64 tick)] []).bind fun r1 =>
  some ([.p (.int .i64 (IntKind.i64.wrap ((IntKind.i64.wrap ((r1.1.headD .undef).pv.toInt + (240000 : Int))).tdiv (480000 : Int))))], []) := by kernel_rfl
/- beat.check -/
def S38_11010 (t17' : List PV) (t18' : Int) (t19' : Int) : St := ⟨.undef :: .undef :: .undef :: .undef :: .undef :: .undef :: .undef :: .undef :: .undef :: .undef :: .undef :: .undef :: .undef :: .undef :: .undef :: .undef :: .undef :: (.p (.list false [.int .i64] t17')) :: (.p (.int .i64 t18')) :: (.p (.int .i64 t19')) :: List.replicate 7 .undef, []⟩
theorem e38 (C : CallF) (l : List PV) (step : Int) (times : List PV) : acallI tab C 38 [.p (.list true [.int .i64, .int .i64] l), .p (.int .i64 step), .p (.list false [.int .i64] times)] [] =
  (C 12 [.p (.list true [.int .i64, .int .i64] l)] []).bind fun r1 =>
  bif (!(r1.1.headD .undef).pv.toBool) then
    some ([.p (.int .i64 2)], [])
  else
    (C 34 [.p (.int .i64 step), .p (.int .i64 1), .p (.int .i64 4194304)] []).bind fun r2 =>
    bif (!(r2.1.headD .undef).pv.toBool) then
      some ([.p (.int .i64 2)], [])
    else
      L tab C 38 [] [.lp [1, 1, 0, 1, 0]] (S38_11010 times ((times.length : Nat) : Int) 0) := by kernel_rfl
theorem e38_11010 (C : CallF) (t17' : List PV) (t18' : Int) (t19' : Int) : R tab C 38 [] [.lp [1, 1, 0, 1, 0]] (S38_11010 t17' t18' t19') =
  bif (decide (t19' < t18')) then
    bif ((decide ((0 : Int) ≤ t19')) && (decide (t19' < ((t17'.length : Nat) : Int)))) then (C 34 [.p (.int .i64 (((t17'.getD t19'.toNat .nil).cell 0).toInt)), .p (.int .i64 0), .p (.int .i64 3600000)] []).bind fun r1 =>
    bif (!(r1.1.headD .undef).pv.toBool) then
      some ([.p (.int .i64 3)], [])
    else
      L tab C 38 [] [.lp [1, 1, 0, 1, 0]] (S38_11010 t17' t18' (IntKind.i64.wrap (t19' + (1 : Int)))) else none
  else
    some ([.p (.int .i64 0)], []) := by kernel_rfl
/- sort.Search -/
def S39_1100t (f_c0_r0 : List PV) (f_c1_r0 : Int) (i' : Int) (j' : Int) : St := ⟨.undef :: (.p (.fn 40 [.ref [.list true [.int .i64, .int .i64] f_c0_r0], .ref [.int .i64 f_c1_r0]])) :: .undef :: .undef :: .undef :: (.p (.int .i64 i')) :: (.p (.int .i64 j')) :: List.replicate 19 .undef, []⟩
theorem e39t (C : CallF) (n_ : Int) (l : List PV) (t : Int) : acallI tab C 39 [.p (.int .i64 n_), .p (.fn 40 [.ref [.list true [.int .i64, .int .i64] l], .ref [.int .i64 t]])] [] =
  L tab C 39 [] [.lp [1, 1, 0, 0]] (S39_1100t l t 0 n_) := by kernel_rfl
theorem e39_1100t (C : CallF) (f_c0_r0 : List PV) (f_c1_r0 : Int) (i' : Int) (j' : Int) : R tab C 39 [] [.lp [1, 1, 0, 0]] (S39_1100t f_c0_r0 f_c1_r0 i' j') =
  bif (decide (i' < j')) then
    (C 40 [.p (.int .i64 (IntKind.i64.wrap ((IntKind.u64.wrap (IntKind.i64.wrap (i' + j'))).fdiv (2 ^ 1)))), .p (.ref [.list true [.int .i64, .int .i64] f_c0_r0]), .p (.ref [.int .i64 f_c1_r0])] []).bind fun r1 =>
    bif (!(r1.1.headD .undef).pv.toBool) then
      L tab C 39 [] [.lp [1, 1, 0, 0]] (S39_1100t f_c0_r0 f_c1_r0 (IntKind.i64.wrap ((IntKind.i64.wrap ((IntKind.u64.wrap (IntKind.i64.wrap (i' + j'))).fdiv (2 ^ 1))) + (1 : Int))) j')
    else
      L tab C 39 [] [.lp [1, 1, 0, 0]] (S39_1100t f_c0_r0 f_c1_r0 i' (IntKind.i64.wrap ((IntKind.u64.wrap (IntKind.i64.wrap (i' + j'))).fdiv (2 ^ 1))))
  else
    some ([.p (.int .i64 i')], []) := by kernel_rfl
/- sort.Search -/
def S39_1100a (f_c0_r0 : List PV) (f_c1_r0 : Int) (f_c2_r0 : Int) (i' : Int) (j' : Int) : St := ⟨.undef :: (.p (.fn 41 [.ref [.list true [.int .i64, .int .i64] f_c0_r0], .ref [.int .i64 f_c1_r0], .ref [.int .i64 f_c2_r0]])) :: .undef :: .undef :: .undef :: (.p (.int .i64 i')) :: (.p (.int .i64 j')) :: List.replicate 19 .undef, []⟩
theorem e39a (C : CallF) (n_ : Int) (l : List PV) (step : Int) (t : Int) : acallI tab C 39 [.p (.int .i64 n_), .p (.fn 41 [.ref [.list true [.int .i64, .int .i64] l], .ref [.int .i64 step], .ref [.int .i64 t]])] [] =
  L tab C 39 [] [.lp [1, 1, 0, 0]] (S39_1100a l step t 0 n_) := by kernel_rfl
theorem e39_1100a (C : CallF) (f_c0_r0 : List PV) (f_c1_r0 : Int) (f_c2_r0 : Int) (i' : Int) (j' : Int) : R tab C 39 [] [.lp [1, 1, 0, 0]] (S39_1100a f_c0_r0 f_c1_r0 f_c2_r0 i' j') =
  bif (decide (i' < j')) then
    (C 41 [.p (.int .i64 (IntKind.i64.wrap ((IntKind.u64.wrap (IntKind.i64.wrap (i' + j'))).fdiv (2 ^ 1)))), .p (.ref [.list true [.int .i64, .int .i64] f_c0_r0]), .p (.ref [.int .i64 f_c1_r0]), .p (.ref [.int .i64 f_c2_r0])] []).bind fun r1 =>
    bif (!(r1.1.headD .undef).pv.toBool) then
      L tab C 39 [] [.lp [1, 1, 0, 0]] (S39_1100a f_c0_r0 f_c1_r0 f_c2_r0 (IntKind.i64.wrap ((IntKind.i64.wrap ((IntKind.u64.wrap (IntKind.i64.wrap (i' + j'))).fdiv (2 ^ 1))) + (1 : Int))) j')
    else
      L tab C 39 [] [.lp [1, 1, 0, 0]] (S39_1100a f_c0_r0 f_c1_r0 f_c2_r0 i' (IntKind.i64.wrap ((IntKind.u64.wrap (IntKind.i64.wrap (i' + j'))).fdiv (2 ^ 1))))
  else
    some ([.p (.int .i64 i')], []) := by kernel_rfl
/- sort.Search -/
def S39_1100b (f_c0_r0 : List PV) (f_c1_r0 : Int) (f_c2_r0 : Int) (i' : Int) (j' : Int) : St := ⟨.undef :: (.p (.fn 42 [.ref [.list true [.int .i64, .int .i64] f_c0_r0], .ref [.int .i64 f_c1_r0], .ref [.int .i64 f_c2_r0]])) :: .undef :: .undef :: .undef :: (.p (.int .i64 i')) :: (.p (.int .i64 j')) :: List.replicate 19 .undef, []⟩
theorem e39b (C : CallF) (n_ : Int) (l : List PV) (step : Int) (t : Int) : acallI tab C 39 [.p (.int .i64 n_), .p (.fn 42 [.ref [.list true [.int .i64, .int .i64] l], .ref [.int .i64 step], .ref [.int .i64 t]])] [] =
  L tab C 39 [] [.lp [1, 1, 0, 0]] (S39_1100b l step t 0 n_) := by kernel_rfl
theorem e39_1100b (C : CallF) (f_c0_r0 : List PV) (f_c1_r0 : Int) (f_c2_r0 : Int) (i' : Int) (j' : Int) : R tab C 39 [] [.lp [1, 1, 0, 0]] (S39_1100b f_c0_r0 f_c1_r0 f_c2_r0 i' j') =
  bif (decide (i' < j')) then
    (C 42 [.p (.int .i64 (IntKind.i64.wrap ((IntKind.u64.wrap (IntKind.i64.wrap (i' + j'))).fdiv (2 ^ 1)))), .p (.ref [.list true [.int .i64, .int .i64] f_c0_r0]), .p (.ref [.int .i64 f_c1_r0]), .p (.ref [.int .i64 f_c2_r0])] []).bind fun r1 =>
    bif (!(r1.1.headD .undef).pv.toBool) then
      L tab C 39 [] [.lp [1, 1, 0, 0]] (S39_1100b f_c0_r0 f_c1_r0 f_c2_r0 (IntKind.i64.wrap ((IntKind.i64.wrap ((IntKind.u64.wrap (IntKind.i64.wrap (i' + j'))).fdiv (2 ^ 1))) + (1 : Int))) j')
    else
      L tab C 39 [] [.lp [1, 1, 0, 0]] (S39_1100b f_c0_r0 f_c1_r0 f_c2_r0 i' (IntKind.i64.wrap ((IntKind.u64.wrap (IntKind.i64.wrap (i' + j'))).fdiv (2 ^ 1))))
  else
    some ([.p (.int .i64 i')], []) := by kernel_rfl
/- sort.Search -/
def S39_1100g (f_c0_r0 : List PV) (f_c1_r0 : Int) (f_c2_r0 : Int) (i' : Int) (j' : Int) : St := ⟨.undef :: (.p (.fn 48 [.ref [.list true [.int .i64, .int .i64] f_c0_r0], .ref [.int .i64 f_c1_r0], .ref [.int .i64 f_c2_r0]])) :: .undef :: .undef :: .undef :: (.p (.int .i64 i')) :: (.p (.int .i64 j')) :: List.replicate 19 .undef, []⟩
theorem e39g (C : CallF) (n_ : Int) (l : List PV) (step : Int) (t : Int) : acallI tab C 39 [.p (.int .i64 n_), .p (.fn 48 [.ref [.list true [.int .i64, .int .i64] l], .ref [.int .i64 step], .ref [.int .i64 t]])] [] =
  L tab C 39 [] [.lp [1, 1, 0, 0]] (S39_1100g l step t 0 n_) := by kernel_rfl
theorem e39_1100g (C : CallF) (f_c0_r0 : List PV) (f_c1_r0 : Int) (f_c2_r0 : Int) (i' : Int) (j' : Int) : R tab C 39 [] [.lp [1, 1, 0, 0]] (S39_1100g f_c0_r0 f_c1_r0 f_c2_r0 i' j') =
  bif (decide (i' < j')) then
    (C 48 [.p (.int .i64 (IntKind.i64.wrap ((IntKind.u64.wrap (IntKind.i64.wrap (i' + j'))).fdiv (2 ^ 1)))), .p (.ref [.list true [.int .i64, .int .i64] f_c0_r0]), .p (.ref [.int .i64 f_c1_r0]), .p (.ref [.int .i64 f_c2_r0])] []).bind fun r1 =>
    bif (!(r1.1.headD .undef).pv.toBool) then
      L tab C 39 [] [.lp [1, 1, 0, 0]] (S39_1100g f_c0_r0 f_c1_r0 f_c2_r0 (IntKind.i64.wrap ((IntKind.i64.wrap ((IntKind.u64.wrap (IntKind.i64.wrap (i' + j'))).fdiv (2 ^ 1))) + (1 : Int))) j')
    else
      L tab C 39 [] [.lp [1, 1, 0, 0]] (S39_1100g f_c0_r0 f_c1_r0 f_c2_r0 i' (IntKind.i64.wrap ((IntKind.u64.wrap (IntKind.i64.wrap (i' + j'))).fdiv (2 ^ 1))))
  else
    some ([.p (.int .i64 i')], []) := by kernel_rfl
/- beat.Tick$1 -/
theorem e40 (C : CallF) (k : Int) (c0 : List PV) (c1 : Int) : acallI tab C 40 [.p (.int .i64 k), .p (.ref [.list true [.int .i64, .int .i64] c0]), .p (.ref [.int .i64 c1])] [] =
  (C 37 [.p (.list true [.int .i64, .int .i64] c0), .p (.int .i64 (IntKind.i64.wrap (k + (1 : Int))))] []).bind fun r1 =>
  some ([.p (.bool (decide ((r1.1.headD .undef).pv.toInt > c1)))], []) := by kernel_rfl
/- beat.Nearest$1 -/
theorem e41 (C : CallF) (k : Int) (c0 : List PV) (c1 : Int) (c2 : Int) : acallI tab C 41 [.p (.int .i64 k), .p (.ref [.list true [.int .i64, .int .i64] c0]), .p (.ref [.int .i64 c1]), .p (.ref [.int .i64 c2])] [] =
  (C 37 [.p (.list true [.int .i64, .int .i64] c0), .p (.int .i64 (IntKind.i64.wrap (k * c1)))] []).bind fun r1 =>
  some ([.p (.bool (decide ((r1.1.headD .undef).pv.toInt ≥ c2)))], []) := by kernel_rfl
/- beat.Nearest$2 -/
theorem e42 (C : CallF) (k : Int) (c0 : List PV) (c1 : Int) (c2 : Int) : acallI tab C 42 [.p (.int .i64 k), .p (.ref [.list true [.int .i64, .int .i64] c0]), .p (.ref [.int .i64 c1]), .p (.ref [.int .i64 c2])] [] =
  (C 37 [.p (.list true [.int .i64, .int .i64] c0), .p (.int .i64 (IntKind.i64.wrap (k * c1)))] []).bind fun r1 =>
  some ([.p (.bool (decide ((r1.1.headD .undef).pv.toInt ≥ c2)))], []) := by kernel_rfl
/- skylanternref27.exact -/
def S43_11010 (l' : List PV) (tick' : Int) (sum' : Int) (i' : Int) : St := ⟨(.p (.list true [.int .i64, .int .i64] l')) :: (.p (.int .i64 tick')) :: .undef :: .undef :: .undef :: (.p (.int .i64 sum')) :: (.p (.int .i64 i')) :: List.replicate 38 .undef, []⟩
theorem e43 (C : CallF) (l : List PV) (tick : Int) : acallI tab C 43 [.p (.list true [.int .i64, .int .i64] l), .p (.int .i64 tick)] [] =
  L tab C 43 [] [.lp [1, 1, 0, 1, 0]] (S43_11010 l tick 0 0) := by kernel_rfl
theorem e43_11010 (C : CallF) (l' : List PV) (tick' : Int) (sum' : Int) (i' : Int) : R tab C 43 [] [.lp [1, 1, 0, 1, 0]] (S43_11010 l' tick' sum' i') =
  bif (decide (i' < ((l'.length : Nat) : Int))) then
    bif (decide ((IntKind.i64.wrap (i' + (1 : Int))) < ((l'.length : Nat) : Int))) then
      bif ((decide ((0 : Int) ≤ (IntKind.i64.wrap (i' + (1 : Int))))) && (decide ((IntKind.i64.wrap (i' + (1 : Int))) < ((l'.length : Nat) : Int)))) then bif ((decide ((0 : Int) ≤ i')) && (decide (i' < ((l'.length : Nat) : Int)))) then bif ((decide ((0 : Int) ≤ i')) && (decide (i' < ((l'.length : Nat) : Int)))) then L tab C 43 [] [.lp [1, 1, 0, 1, 0]] (S43_11010 l' tick' (IntKind.i64.wrap (sum' + (IntKind.i64.wrap ((goMax 0 (IntKind.i64.wrap ((goMin tick' (((l'.getD ((IntKind.i64.wrap (i' + (1 : Int))).toNat) .nil).cell 0).toInt)) - ((l'.getD i'.toNat .nil).cell 0).toInt))) * ((l'.getD i'.toNat .nil).cell 1).toInt)))) (IntKind.i64.wrap (i' + (1 : Int)))) else none else none else none
    else
      bif ((decide ((0 : Int) ≤ i')) && (decide (i' < ((l'.length : Nat) : Int)))) then bif ((decide ((0 : Int) ≤ i')) && (decide (i' < ((l'.length : Nat) : Int)))) then L tab C 43 [] [.lp [1, 1, 0, 1, 0]] (S43_11010 l' tick' (IntKind.i64.wrap (sum' + (IntKind.i64.wrap ((goMax 0 (IntKind.i64.wrap (tick' - ((l'.getD i'.toNat .nil).cell 0).toInt))) * ((l'.getD i'.toNat .nil).cell 1).toInt)))) (IntKind.i64.wrap (i' + (1 : Int)))) else none else none
  else
    some ([.p (.int .i64 sum')], []) := by kernel_rfl
/- skylanternref27.round -/
theorem e44 (C : CallF) (x : Int) : acallI tab C 44 [.p (.int .i64 x)] [] =
  some ([.p (.int .i64 (IntKind.i64.wrap ((IntKind.i64.wrap ((IntKind.i64.wrap ((2 : Int) * x)) + (480000 : Int))).tdiv (960000 : Int))))], []) := by kernel_rfl
/- skylanternref27.differ -/
theorem e45 (C : CallF) (a : Int) (b : Int) : acallI tab C 45 [.p (.int .i64 a), .p (.int .i64 b)] [] =
  bif (decide (a < b)) then
    some ([.p (.int .i64 (IntKind.i64.wrap (b - a)))], [])
  else
    some ([.p (.int .i64 (IntKind.i64.wrap (a - b)))], []) := by kernel_rfl
/- slices.Clone[[]api.Tempo,api.Tempo] -/
theorem e46 (C : CallF) (s : List PV) : acallI tab C 46 [.p (.list true [.int .i64, .int .i64] s)] [] =
  bif (Nat.blt 0 s.length) then bif (decide ((0 + s.length) ≤ 2147483648)) then some ([.fresh true [.int .i64, .int .i64] (((([] : List PV) ++ s).drop 0).take (0 + s.length))], []) else none else none := by kernel_rfl
/- beat.Grid$1 -/
def S47_110 (t1_r0 : Int) (t2_r0 : List PV) (t4_r0 : Int) (k' : Int) (b100000_b : List PV) : St := ⟨(.yld) :: (.p (.ref [.int .i64 t1_r0])) :: (.p (.ref [.list true [.int .i64, .int .i64] t2_r0])) :: .undef :: (.p (.ref [.int .i64 t4_r0])) :: .undef :: .undef :: (.p (.int .i64 k')) :: List.replicate 27 .undef, [(100000, .log true b100000_b)]⟩
theorem e47 (C : CallF) (c0 : Int) (c1 : List PV) (c2 : Int) (c3 : Int) : acallI tab C 47 [.yld, .p (.ref [.int .i64 c0]), .p (.ref [.list true [.int .i64, .int .i64] c1]), .p (.ref [.int .i64 c2]), .p (.ref [.int .i64 c3])] [.log true []] =
  bif (!(decide (c0 = (0 : Int)))) then (C 39 [.p (.int .i64 (IntKind.i64.wrap ((IntKind.i64.wrap ((4194304 : Int).tdiv c0)) + (1 : Int)))), .p (.fn 48 [.ref [.list true [.int .i64, .int .i64] c1], .ref [.int .i64 c0], .ref [.int .i64 c2]])] []).bind fun r1 =>
  L tab C 47 [.log true []] [.lp [1, 1, 0]] (S47_110 c0 c1 c3 (IntKind.i64.wrap ((r1.1.headD .undef).pv.toInt * c0)) []) else none := by kernel_rfl
theorem e47_110 (C : CallF) (t1_r0 : Int) (t2_r0 : List PV) (t4_r0 : Int) (k' : Int) (b100000_b : List PV) : R tab C 47 [.log true []] [.lp [1, 1, 0]] (S47_110 t1_r0 t2_r0 t4_r0 k' b100000_b) =
  bif (decide (k' ≤ (4194304 : Int))) then
    (C 37 [.p (.list true [.int .i64, .int .i64] t2_r0), .p (.int .i64 k')] []).bind fun r1 =>
    bif (decide ((r1.1.headD .undef).pv.toInt ≥ t4_r0)) then
      some ([], [.log true b100000_b])
    else
      fork (some ([], [.log false (b100000_b ++ ([.agg [.int .i64 k', .int .i64 ((r1.1.headD .undef).pv.toInt)]] : List PV))])) <|
      L tab C 47 [.log true []] [.lp [1, 1, 0]] (S47_110 t1_r0 t2_r0 t4_r0 (IntKind.i64.wrap (k' + t1_r0)) (b100000_b ++ ([.agg [.int .i64 k', .int .i64 ((r1.1.headD .undef).pv.toInt)]] : List PV)))
  else
    some ([], [.log true b100000_b]) := by kernel_rfl
/- beat.Grid$1$1 -/
theorem e48 (C : CallF) (k : Int) (c0 : List PV) (c1 : Int) (c2 : Int) : acallI tab C 48 [.p (.int .i64 k), .p (.ref [.list true [.int .i64, .int .i64] c0]), .p (.ref [.int .i64 c1]), .p (.ref [.int .i64 c2])] [] =
  (C 37 [.p (.list true [.int .i64, .int .i64] c0), .p (.int .i64 (IntKind.i64.wrap (k * c1)))] []).bind fun r1 =>
  some ([.p (.bool (decide ((r1.1.headD .undef).pv.toInt ≥ c2)))], []) := by kernel_rfl
/- skylanternref27.digits -/
theorem e50 (C : CallF) (n_ : Int) : acallI tab C 50 [.p (.int .i64 n_)] [] =
  bif (decide (n_ < (10 : Int))) then
    bif ((decide ((0 : Int) ≤ n_)) && ((decide (n_ ≤ (IntKind.i64.wrap (n_ + (1 : Int))))) && (decide ((IntKind.i64.wrap (n_ + (1 : Int))) ≤ (10 : Int))))) then some ([.p (.str ((⟨#[48, 49, 50, 51, 52, 53, 54, 55, 56, 57]⟩ : ByteArray).extract n_.toNat ((IntKind.i64.wrap (n_ + (1 : Int))).toNat)))], []) else none
  else
    (C 50 [.p (.int .i64 (IntKind.i64.wrap (n_.tdiv (10 : Int))))] []).bind fun r1 =>
    (C 50 [.p (.int .i64 (n_.tmod (10 : Int)))] []).bind fun r2 =>
    bif (decide (((r1.1.headD .undef).pv.toStr).size + ((r2.1.headD .undef).pv.toStr).size ≤ 4611686018427387904)) then some ([.p (.str ((r1.1.headD .undef).pv.toStr ++ (r2.1.headD .undef).pv.toStr))], []) else none := by kernel_rfl
/- slices.BinarySearchFunc[[]api.Tempo,api.Tempo,int] -/
def S53_11100 (x' : List PV) (target' : Int) (n_' : Int) (i' : Int) (j' : Int) : St := ⟨(.p (.list true [.int .i64, .int .i64] x')) :: (.p (.int .i64 target')) :: (.p (.fn 54 [])) :: .undef :: .undef :: .undef :: .undef :: .undef :: (.p (.int .i64 n_')) :: (.p (.int .i64 i')) :: (.p (.int .i64 j')) :: List.replicate 38 .undef, []⟩
theorem e53 (C : CallF) (x : List PV) (target : Int) : acallI tab C 53 [.p (.list true [.int .i64, .int .i64] x), .p (.int .i64 target), .p (.fn 54 [])] [] =
  L tab C 53 [] [.lp [1, 1, 1, 0, 0]] (S53_11100 x target ((x.length : Nat) : Int) 0 ((x.length : Nat) : Int)) := by kernel_rfl
theorem e53_11100 (C : CallF) (x' : List PV) (target' : Int) (n_' : Int) (i' : Int) (j' : Int) : R tab C 53 [] [.lp [1, 1, 1, 0, 0]] (S53_11100 x' target' n_' i' j') =
  bif (decide (i' < j')) then
    bif ((decide ((0 : Int) ≤ (IntKind.i64.wrap ((IntKind.u64.wrap (IntKind.i64.wrap (i' + j'))).fdiv (2 ^ 1))))) && (decide ((IntKind.i64.wrap ((IntKind.u64.wrap (IntKind.i64.wrap (i' + j'))).fdiv (2 ^ 1))) < ((x'.length : Nat) : Int)))) then (C 54 [.p (.agg [.int .i64 (((x'.getD ((IntKind.i64.wrap ((IntKind.u64.wrap (IntKind.i64.wrap (i' + j'))).fdiv (2 ^ 1))).toNat) .nil).cell 0).toInt), .int .i64 (((x'.getD ((IntKind.i64.wrap ((IntKind.u64.wrap (IntKind.i64.wrap (i' + j'))).fdiv (2 ^ 1))).toNat) .nil).cell 1).toInt)]), .p (.int .i64 target')] []).bind fun r1 =>
    bif (decide ((r1.1.headD .undef).pv.toInt < (0 : Int))) then
      L tab C 53 [] [.lp [1, 1, 1, 0, 0]] (S53_11100 x' target' n_' (IntKind.i64.wrap ((IntKind.i64.wrap ((IntKind.u64.wrap (IntKind.i64.wrap (i' + j'))).fdiv (2 ^ 1))) + (1 : Int))) j')
    else
      L tab C 53 [] [.lp [1, 1, 1, 0, 0]] (S53_11100 x' target' n_' i' (IntKind.i64.wrap ((IntKind.u64.wrap (IntKind.i64.wrap (i' + j'))).fdiv (2 ^ 1)))) else none
  else
    bif (decide (i' < n_')) then
      bif ((decide ((0 : Int) ≤ i')) && (decide (i' < ((x'.length : Nat) : Int)))) then (C 54 [.p (.agg [.int .i64 (((x'.getD i'.toNat .nil).cell 0).toInt), .int .i64 (((x'.getD i'.toNat .nil).cell 1).toInt)]), .p (.int .i64 target')] []).bind fun r2 =>
      some ([.p (.int .i64 i'), .p (.bool ((r2.1.headD .undef).pv.toInt == (0 : Int)))], []) else none
    else
      some ([.p (.int .i64 i'), .p (.bool false)], []) := by kernel_rfl
/- beat.exact$1 -/
theorem e54 (C : CallF) (x_0 : Int) (x_1 : Int) (tick : Int) : acallI tab C 54 [.p (.agg [.int .i64 x_0, .int .i64 x_1]), .p (.int .i64 tick)] [] =
  some ([.p (.int .i64 (IntKind.i64.wrap (x_0 - tick)))], []) := by kernel_rfl
end Go.Skm.Beat
