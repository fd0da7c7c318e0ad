/-
  What the machine does in each function of this program, and in each round of each loop; no condition.
-/
import Derived.Test.YtipkmkmngcjdbaaSkmE
import Derived.Test.YtipkmkmngcjdbaaTab
import Derived.KernelRfl
set_option maxRecDepth 100000
namespace Go.Skm.Sct
open Go Go.Skm
def S3_111111010 (l' : List PV) (own_o : Nat) (own_l : Nat) (a_o : Nat) (a_l : Nat) (t39' : Int) (t40' : Int) (own_b : List PV) (a_b : List PV) : St := ⟨(.p (.list true [.int .i64,.int .i64,.int .i64] l'))::.undef::.undef::.undef::.undef::(.slice 5 3 own_o own_l)::(.slice 6 3 a_o a_l)::.undef::.undef::.undef::.undef::.undef::.undef::.undef::.undef::.undef::.undef::.undef::.undef::.undef::.undef::.undef::.undef::.undef::.undef::.undef::.undef::.undef::.undef::.undef::.undef::.undef::.undef::.undef::.undef::.undef::.undef::.undef::.undef::(.p (.int .i64 t39'))::(.p (.int .i64 t40'))::List.replicate 17 .undef,[(5,.arr true [.int .i64,.int .i64,.int .i64] own_b),(6,.arr true [.int .i64,.int .i64,.int .i64] a_b)]⟩
theorem e3 (C : CallF) (l : List PV) (many : Int) : acallI tab C 3 [.p (.list true [.int .i64,.int .i64,.int .i64] l),.p (.int .i64 many)] [] =
  bif (gtI ((l.length : Nat) : Int) (25 : Int)) then
    (C 9 [] []).bind fun r1 =>
    some ([.p (.bool ((r1.1.headD .undef).pv.toBool))],[])
  else
    bif (leN l.length 2147483648) then (C 10 [.p (.list true [.int .i64,.int .i64,.int .i64] ((l.drop 0).take l.length)),.p (.int .i64 many)] []).bind fun r2 =>
    (C 11 [.p (.list true [.int .i64,.int .i64,.int .i64] l),.p (.int .i64 many)] []).bind fun r3 =>
    (C 12 [.p (.list true [.int .i64,.int .i64,.int .i64] ((((r2.1.headD .undef).freshList).drop 0).take ((r2.1.headD .undef).freshList.length))),.p (.list true [.int .i64,.int .i64,.int .i64] ((((r3.1.headD .undef).freshList).drop 0).take ((r3.1.headD .undef).freshList.length)))] []).bind fun r4 =>
    bif (!(r4.1.headD .undef).pv.toBool) then
      some ([.p (.bool false)],[])
    else
      bif ((r2.1.tail.headD .undef).pv.toInt != (r3.1.tail.headD .undef).pv.toInt) then
        some ([.p (.bool false)],[])
      else
        L tab C 3 [] [.lp [1,1,1,1,1,1,0,1,0]] (S3_111111010 l 0 l.length 0 ((r2.1.headD .undef).freshList.length) (((r2.1.headD .undef).freshList.length : Nat) : Int) 0 l ((r2.1.headD .undef).freshList)) else none := by kernel_rfl
theorem e3_111111010 (C : CallF) (l' : List PV) (own_o : Nat) (own_l : Nat) (a_o : Nat) (a_l : Nat) (t39' : Int) (t40' : Int) (own_b : List PV) (a_b : List PV) : R tab C 3 [] [.lp [1,1,1,1,1,1,0,1,0]] (S3_111111010 l' own_o own_l a_o a_l t39' t40' own_b a_b) =
  bif (ltI t40' t39') then
    bif ((leI (0 : Int) t40') && (ltI t40' (a_l : Int))) then bif ((leI (0 : Int) t40') && (ltI t40' (a_l : Int))) then L tab C 3 [] [.lp [1,1,1,1,1,1,0,1,0]] (S3_111111010 l' own_o own_l a_o a_l t39' (IntKind.i64.wrap (t40' + (1 : Int))) own_b (a_b.set (a_o + t40'.toNat) (PV.agg [.int .i64 (IntKind.i64.wrap (((a_b.getD (a_o + t40'.toNat) .nil).cell 0).toInt + (1 : Int))),.int .i64 (((a_b.getD (a_o + t40'.toNat) .nil).cell 1).toInt),.int .i64 (((a_b.getD (a_o + t40'.toNat) .nil).cell 2).toInt)]))) else none else none
  else
    (C 12 [.p (.list true [.int .i64,.int .i64,.int .i64] ((own_b.drop own_o).take own_l)),.p (.list true [.int .i64,.int .i64,.int .i64] l')] []).bind fun r1 =>
    bif (r1.1.headD .undef).pv.toBool then
      (C 9 [] []).bind fun r2 =>
      some ([.p (.bool ((r2.1.headD .undef).pv.toBool))],[])
    else
      some ([.p (.bool false)],[]) := by kernel_rfl
theorem e4 (C : CallF) (l : List PV) : acallI tab C 4 [.p (.list true [.int .i64,.int .i64,.int .i64] l)] [] =
  bif (gtI ((l.length : Nat) : Int) (40 : Int)) then
    (C 9 [] []).bind fun r1 =>
    some ([.p (.bool ((r1.1.headD .undef).pv.toBool))],[])
  else
    (C 13 [.p (.list true [.int .i64,.int .i64,.int .i64] l)] []).bind fun r2 =>
    (C 14 [.p (.list true [.int .i64,.int .i64,.int .i64] l)] []).bind fun r3 =>
    bif ((r2.1.headD .undef).pv.toInt == (r3.1.headD .undef).pv.toInt) then
      bif ((r2.1.tail.headD .undef).pv.toInt == (r3.1.tail.headD .undef).pv.toInt) then
        (C 9 [] []).bind fun r4 =>
        some ([.p (.bool ((r4.1.headD .undef).pv.toBool))],[])
      else
        some ([.p (.bool false)],[])
    else
      some ([.p (.bool false)],[]) := by kernel_rfl
theorem e5 (C : CallF) (l : List PV) (chosen : List PV) : acallI tab C 5 [.p (.list true [.int .i64,.int .i64,.int .i64] l),.p (.list true [.int .i64,.int .i64,.int .i64] chosen)] [] =
  bif (gtI ((l.length : Nat) : Int) (40 : Int)) then
    (C 9 [] []).bind fun r1 =>
    some ([.p (.bool ((r1.1.headD .undef).pv.toBool))],[])
  else
    bif (gtI ((chosen.length : Nat) : Int) (40 : Int)) then
      (C 9 [] []).bind fun r2 =>
      some ([.p (.bool ((r2.1.headD .undef).pv.toBool))],[])
    else
      (C 15 [.p (.list true [.int .i64,.int .i64,.int .i64] l),.p (.list true [.int .i64,.int .i64,.int .i64] chosen)] []).bind fun r3 =>
      (C 16 [.p (.list true [.int .i64,.int .i64,.int .i64] l),.p (.list true [.int .i64,.int .i64,.int .i64] chosen)] []).bind fun r4 =>
      bif ((r3.1.headD .undef).pv.toInt == (r4.1.headD .undef).pv.toInt) then
        bif ((r3.1.tail.headD .undef).pv.toInt == (r4.1.tail.headD .undef).pv.toInt) then
          (C 9 [] []).bind fun r5 =>
          some ([.p (.bool ((r5.1.headD .undef).pv.toBool))],[])
        else
          some ([.p (.bool false)],[])
      else
        some ([.p (.bool false)],[]) := by kernel_rfl
def S6_11010 (f' : List PV) (many' : Int) (t23' : List PV) (t24' : Int) (t25' : Int) : St := ⟨(.p (.list true [.int .i64,.slice true [.int .i64,.int .i64,.int .i64],.int .i64,.int .i64,.int .i64,.int .i64] f'))::(.p (.int .i64 many'))::.undef::.undef::.undef::.undef::.undef::.undef::.undef::.undef::.undef::.undef::.undef::.undef::.undef::.undef::.undef::.undef::.undef::.undef::.undef::.undef::.undef::(.p (.list true [.int .i64,.slice true [.int .i64,.int .i64,.int .i64],.int .i64,.int .i64,.int .i64,.int .i64] t23'))::(.p (.int .i64 t24'))::(.p (.int .i64 t25'))::List.replicate 52 .undef,[]⟩
theorem e6 (C : CallF) (f : List PV) (many : Int) : acallI tab C 6 [.p (.list true [.int .i64,.slice true [.int .i64,.int .i64,.int .i64],.int .i64,.int .i64,.int .i64,.int .i64] f),.p (.int .i64 many)] [] =
  bif (gtI ((f.length : Nat) : Int) (3 : Int)) then
    (C 9 [] []).bind fun r1 =>
    some ([.p (.bool ((r1.1.headD .undef).pv.toBool))],[])
  else
    bif (gtI many (25 : Int)) then
      bif (leI many (4000 : Int)) then
        (C 9 [] []).bind fun r2 =>
        some ([.p (.bool ((r2.1.headD .undef).pv.toBool))],[])
      else
        L tab C 6 [] [.lp [1,1,0,1,0]] (S6_11010 f many f ((f.length : Nat) : Int) 0)
    else
      L tab C 6 [] [.lp [1,1,0,1,0]] (S6_11010 f many f ((f.length : Nat) : Int) 0) := by kernel_rfl
theorem e6_11010 (C : CallF) (f' : List PV) (many' : Int) (t23' : List PV) (t24' : Int) (t25' : Int) : R tab C 6 [] [.lp [1,1,0,1,0]] (S6_11010 f' many' t23' t24' t25') =
  bif (ltI t25' t24') then
    bif ((leI (0 : Int) t25') && (ltI t25' ((t23'.length : Nat) : Int))) then bif (gtI (((((t23'.getD t25'.toNat .nil).cell 1).toList).length : Nat) : Int) (6 : Int)) then
      (C 9 [] []).bind fun r1 =>
      some ([.p (.bool ((r1.1.headD .undef).pv.toBool))],[])
    else
      bif (gtI (((t23'.getD t25'.toNat .nil).cell 2).toInt) (6 : Int)) then
        bif (leI (((t23'.getD t25'.toNat .nil).cell 2).toInt) (500 : Int)) then
          (C 9 [] []).bind fun r2 =>
          some ([.p (.bool ((r2.1.headD .undef).pv.toBool))],[])
        else
          bif (gtI (((t23'.getD t25'.toNat .nil).cell 3).toInt) (2 : Int)) then
            bif (leI (((t23'.getD t25'.toNat .nil).cell 3).toInt) (50 : Int)) then
              (C 9 [] []).bind fun r3 =>
              some ([.p (.bool ((r3.1.headD .undef).pv.toBool))],[])
            else
              L tab C 6 [] [.lp [1,1,0,1,0]] (S6_11010 f' many' t23' t24' (IntKind.i64.wrap (t25' + (1 : Int))))
          else
            L tab C 6 [] [.lp [1,1,0,1,0]] (S6_11010 f' many' t23' t24' (IntKind.i64.wrap (t25' + (1 : Int))))
      else
        bif (gtI (((t23'.getD t25'.toNat .nil).cell 3).toInt) (2 : Int)) then
          bif (leI (((t23'.getD t25'.toNat .nil).cell 3).toInt) (50 : Int)) then
            (C 9 [] []).bind fun r4 =>
            some ([.p (.bool ((r4.1.headD .undef).pv.toBool))],[])
          else
            L tab C 6 [] [.lp [1,1,0,1,0]] (S6_11010 f' many' t23' t24' (IntKind.i64.wrap (t25' + (1 : Int))))
        else
          L tab C 6 [] [.lp [1,1,0,1,0]] (S6_11010 f' many' t23' t24' (IntKind.i64.wrap (t25' + (1 : Int)))) else none
  else
    (C 17 [.p (.list true [.int .i64,.slice true [.int .i64,.int .i64,.int .i64],.int .i64,.int .i64,.int .i64,.int .i64] f'),.p (.int .i64 many')] []).bind fun r5 =>
    (C 18 [.p (.list true [.int .i64,.slice true [.int .i64,.int .i64,.int .i64],.int .i64,.int .i64,.int .i64,.int .i64] f'),.p (.int .i64 many')] []).bind fun r6 =>
    (C 12 [.p (.list true [.int .i64,.int .i64,.int .i64] ((((r5.1.headD .undef).freshList).drop 0).take ((r5.1.headD .undef).freshList.length))),.p (.list true [.int .i64,.int .i64,.int .i64] ((((r6.1.headD .undef).freshList).drop 0).take ((r6.1.headD .undef).freshList.length)))] []).bind fun r7 =>
    bif (r7.1.headD .undef).pv.toBool then
      bif ((r5.1.tail.headD .undef).pv.toInt == (r6.1.tail.headD .undef).pv.toInt) then
        (C 9 [] []).bind fun r8 =>
        some ([.p (.bool ((r8.1.headD .undef).pv.toBool))],[])
      else
        some ([.p (.bool false)],[])
    else
      some ([.p (.bool false)],[]) := by kernel_rfl
def S7_111010 (many' : Int) (step' : Int) (l_o : Nat) (l_l : Nat) (i' : Int) (l_b : List PV) : St := ⟨(.p (.int .i64 many'))::(.p (.int .i64 step'))::.undef::.undef::.undef::(.slice 5 3 l_o l_l)::(.p (.int .i64 i'))::List.replicate 150 .undef,[(5,.arr true [.int .i64,.int .i64,.int .i64] l_b)]⟩
theorem e7 (C : CallF) (many : Int) (step : Int) : acallI tab C 7 [.p (.int .i64 many),.p (.int .i64 step)] [] =
  bif (ltI many (1 : Int)) then
    (C 9 [] []).bind fun r1 =>
    some ([.p (.bool ((r1.1.headD .undef).pv.toBool))],[])
  else
    bif (gtI many (30 : Int)) then
      (C 9 [] []).bind fun r2 =>
      some ([.p (.bool ((r2.1.headD .undef).pv.toBool))],[])
    else
      bif (ltI step (1 : Int)) then
        (C 9 [] []).bind fun r3 =>
        some ([.p (.bool ((r3.1.headD .undef).pv.toBool))],[])
      else
        bif (gtI step (200 : Int)) then
          (C 9 [] []).bind fun r4 =>
          some ([.p (.bool ((r4.1.headD .undef).pv.toBool))],[])
        else
          L tab C 7 [] [.lp [1,1,1,0,1,0]] (S7_111010 many step 0 0 0 []) := by kernel_rfl
theorem e7_111010 (C : CallF) (many' : Int) (step' : Int) (l_o : Nat) (l_l : Nat) (i' : Int) (l_b : List PV) : R tab C 7 [] [.lp [1,1,1,0,1,0]] (S7_111010 many' step' l_o l_l i' l_b) =
  bif (ltI i' (4097 : Int)) then
    (C 19 [.p (.int .i64 (IntKind.i64.wrap (i' * step'))),.p (.int .i64 0),.p (.int .i64 0)] []).bind fun r1 =>
    bif (leN (l_l + 1) 2147483648) then L tab C 7 [] [.lp [1,1,1,0,1,0]] (S7_111010 many' step' 0 (l_l + 1) (IntKind.i64.wrap (i' + (1 : Int))) (((l_b.drop l_o).take l_l) ++ ([.agg [.int .i64 (((r1.1.headD .undef).pv.cell 0).toInt),.int .i64 (((r1.1.headD .undef).pv.cell 1).toInt),.int .i64 (((r1.1.headD .undef).pv.cell 2).toInt)]] : List PV))) else none
  else
    bif ((leI (4096 : Int) (l_l : Int)) && (leI (l_l : Int) (l_l : Int))) then (C 10 [.p (.list true [.int .i64,.int .i64,.int .i64] ((l_b.drop (l_o + 0)).take 4096)),.p (.int .i64 many')] []).bind fun r2 =>
    bif ((leI (4096 : Int) (l_l : Int)) && (leI (l_l : Int) (l_l : Int))) then (C 13 [.p (.list true [.int .i64,.int .i64,.int .i64] ((l_b.drop (l_o + 0)).take 4096))] []).bind fun r3 =>
    bif ((leI (4096 : Int) (l_l : Int)) && (leI (l_l : Int) (l_l : Int))) then bif ((leI (4096 : Int) (l_l : Int)) && ((leI (l_l : Int) (l_l : Int)) && (leI (l_l : Int) (l_l : Int)))) then (C 15 [.p (.list true [.int .i64,.int .i64,.int .i64] ((l_b.drop (l_o + 0)).take 4096)),.p (.list true [.int .i64,.int .i64,.int .i64] ((l_b.drop (l_o + 4096)).take (((l_l : Int) - (4096 : Int)).toNat)))] []).bind fun r4 =>
    bif ((((r2.1.headD .undef).freshList.length : Nat) : Int) != many') then
      some ([.p (.bool false)],[])
    else
      bif ((r2.1.tail.headD .undef).pv.toInt != (0 : Int)) then
        some ([.p (.bool false)],[])
      else
        bif ((r3.1.headD .undef).pv.toInt != (IntKind.i64.wrap (step' * step'))) then
          some ([.p (.bool false)],[])
        else
          bif ((r3.1.tail.headD .undef).pv.toInt != (0 : Int)) then
            some ([.p (.bool false)],[])
          else
            bif ((r4.1.headD .undef).pv.toInt != (IntKind.i64.wrap ((IntKind.i64.wrap ((16777216 : Int) * step')) * step'))) then
              some ([.p (.bool false)],[])
            else
              bif ((r4.1.tail.headD .undef).pv.toInt != (0 : Int)) then
                some ([.p (.bool false)],[])
              else
                bif (ltI (0 : Int) (((r2.1.headD .undef).freshList.length : Nat) : Int)) then bif (ltI (0 : Int) (l_l : Int)) then bif (!((((((r2.1.headD .undef).freshList).getD 0 .nil).cell 0).toInt == ((l_b.getD (l_o + 0) .nil).cell 0).toInt) && ((((((r2.1.headD .undef).freshList).getD 0 .nil).cell 1).toInt == ((l_b.getD (l_o + 0) .nil).cell 1).toInt) && ((((((r2.1.headD .undef).freshList).getD 0 .nil).cell 2).toInt == ((l_b.getD (l_o + 0) .nil).cell 2).toInt) && true)))) then
                  some ([.p (.bool false)],[])
                else
                  bif (gtI many' (1 : Int)) then
                    bif (ltI (1 : Int) (((r2.1.headD .undef).freshList.length : Nat) : Int)) then bif (ltI (4095 : Int) (l_l : Int)) then bif (!((((((r2.1.headD .undef).freshList).getD 1 .nil).cell 0).toInt == ((l_b.getD (l_o + 4095) .nil).cell 0).toInt) && ((((((r2.1.headD .undef).freshList).getD 1 .nil).cell 1).toInt == ((l_b.getD (l_o + 4095) .nil).cell 1).toInt) && ((((((r2.1.headD .undef).freshList).getD 1 .nil).cell 2).toInt == ((l_b.getD (l_o + 4095) .nil).cell 2).toInt) && true)))) then
                      some ([.p (.bool false)],[])
                    else
                      (C 10 [.p (.list true [.int .i64,.int .i64,.int .i64] ((l_b.drop l_o).take l_l)),.p (.int .i64 many')] []).bind fun r5 =>
                      (C 13 [.p (.list true [.int .i64,.int .i64,.int .i64] ((l_b.drop l_o).take l_l))] []).bind fun r6 =>
                      bif ((leI (1 : Int) (l_l : Int)) && (leI (l_l : Int) (l_l : Int))) then (C 15 [.p (.list true [.int .i64,.int .i64,.int .i64] ((l_b.drop l_o).take l_l)),.p (.list true [.int .i64,.int .i64,.int .i64] ((l_b.drop (l_o + 0)).take 1))] []).bind fun r7 =>
                      bif ((leI (1 : Int) (l_l : Int)) && (leI (l_l : Int) (l_l : Int))) then (C 15 [.p (.list true [.int .i64,.int .i64,.int .i64] ((l_b.drop (l_o + 0)).take 1)),.p (.list true [.int .i64,.int .i64,.int .i64] ((l_b.drop l_o).take l_l))] []).bind fun r8 =>
                      bif ((r5.1.tail.headD .undef).pv.toInt == (2 : Int)) then
                        bif ((r6.1.tail.headD .undef).pv.toInt == (2 : Int)) then
                          bif ((r7.1.tail.headD .undef).pv.toInt == (2 : Int)) then
                            bif ((r8.1.tail.headD .undef).pv.toInt == (2 : Int)) then
                              (C 9 [] []).bind fun r9 =>
                              some ([.p (.bool ((r9.1.headD .undef).pv.toBool))],[])
                            else
                              some ([.p (.bool false)],[])
                          else
                            some ([.p (.bool false)],[])
                        else
                          some ([.p (.bool false)],[])
                      else
                        some ([.p (.bool false)],[]) else none else none else none else none
                  else
                    (C 10 [.p (.list true [.int .i64,.int .i64,.int .i64] ((l_b.drop l_o).take l_l)),.p (.int .i64 many')] []).bind fun r10 =>
                    (C 13 [.p (.list true [.int .i64,.int .i64,.int .i64] ((l_b.drop l_o).take l_l))] []).bind fun r11 =>
                    bif ((leI (1 : Int) (l_l : Int)) && (leI (l_l : Int) (l_l : Int))) then (C 15 [.p (.list true [.int .i64,.int .i64,.int .i64] ((l_b.drop l_o).take l_l)),.p (.list true [.int .i64,.int .i64,.int .i64] ((l_b.drop (l_o + 0)).take 1))] []).bind fun r12 =>
                    bif ((leI (1 : Int) (l_l : Int)) && (leI (l_l : Int) (l_l : Int))) then (C 15 [.p (.list true [.int .i64,.int .i64,.int .i64] ((l_b.drop (l_o + 0)).take 1)),.p (.list true [.int .i64,.int .i64,.int .i64] ((l_b.drop l_o).take l_l))] []).bind fun r13 =>
                    bif ((r10.1.tail.headD .undef).pv.toInt == (2 : Int)) then
                      bif ((r11.1.tail.headD .undef).pv.toInt == (2 : Int)) then
                        bif ((r12.1.tail.headD .undef).pv.toInt == (2 : Int)) then
                          bif ((r13.1.tail.headD .undef).pv.toInt == (2 : Int)) then
                            (C 9 [] []).bind fun r14 =>
                            some ([.p (.bool ((r14.1.headD .undef).pv.toBool))],[])
                          else
                            some ([.p (.bool false)],[])
                        else
                          some ([.p (.bool false)],[])
                      else
                        some ([.p (.bool false)],[])
                    else
                      some ([.p (.bool false)],[]) else none else none else none else none else none else none else none else none := by kernel_rfl
theorem e9 (C : CallF)  : acallI tab C 9 [] [] =
  (C 23 [.p (.list false [.int .i64] [.int .i64 0,.int .i64 1,.int .i64 4,.int .i64 10])] []).bind fun r1 =>
  (C 10 [.p (.list true [.int .i64,.int .i64,.int .i64] ((((r1.1.headD .undef).freshList).drop 0).take ((r1.1.headD .undef).freshList.length))),.p (.int .i64 4)] []).bind fun r2 =>
  (C 10 [.p (.list true [.int .i64,.int .i64,.int .i64] ((((r1.1.headD .undef).freshList).drop 0).take ((r1.1.headD .undef).freshList.length))),.p (.int .i64 2)] []).bind fun r3 =>
  (C 10 [.p (.list true [.int .i64,.int .i64,.int .i64] ((((r1.1.headD .undef).freshList).drop 0).take ((r1.1.headD .undef).freshList.length))),.p (.int .i64 5)] []).bind fun r4 =>
  (C 19 [.p (.int .i64 (-1)),.p (.int .i64 0),.p (.int .i64 0)] []).bind fun r5 =>
  (C 19 [.p (.int .i64 0),.p (.int .i64 0),.p (.int .i64 0)] []).bind fun r6 =>
  (C 19 [.p (.int .i64 1),.p (.int .i64 0),.p (.int .i64 0)] []).bind fun r7 =>
  (C 19 [.p (.int .i64 1),.p (.int .i64 1),.p (.int .i64 0)] []).bind fun r8 =>
  (C 10 [.p (.list true [.int .i64,.int .i64,.int .i64] [.agg [.int .i64 (((r5.1.headD .undef).pv.cell 0).toInt),.int .i64 (((r5.1.headD .undef).pv.cell 1).toInt),.int .i64 (((r5.1.headD .undef).pv.cell 2).toInt)],.agg [.int .i64 (((r6.1.headD .undef).pv.cell 0).toInt),.int .i64 (((r6.1.headD .undef).pv.cell 1).toInt),.int .i64 (((r6.1.headD .undef).pv.cell 2).toInt)],.agg [.int .i64 (((r7.1.headD .undef).pv.cell 0).toInt),.int .i64 (((r7.1.headD .undef).pv.cell 1).toInt),.int .i64 (((r7.1.headD .undef).pv.cell 2).toInt)],.agg [.int .i64 (((r8.1.headD .undef).pv.cell 0).toInt),.int .i64 (((r8.1.headD .undef).pv.cell 1).toInt),.int .i64 (((r8.1.headD .undef).pv.cell 2).toInt)]]),.p (.int .i64 3)] []).bind fun r9 =>
  (C 23 [.p (.list false [.int .i64] [.int .i64 0,.int .i64 10,.int .i64 4,.int .i64 1])] []).bind fun r10 =>
  (C 12 [.p (.list true [.int .i64,.int .i64,.int .i64] ((((r2.1.headD .undef).freshList).drop 0).take ((r2.1.headD .undef).freshList.length))),.p (.list true [.int .i64,.int .i64,.int .i64] ((((r10.1.headD .undef).freshList).drop 0).take ((r10.1.headD .undef).freshList.length)))] []).bind fun r11 =>
  bif (!(r11.1.headD .undef).pv.toBool) then
    some ([.p (.bool false)],[])
  else
    bif ((r2.1.tail.headD .undef).pv.toInt != (0 : Int)) then
      some ([.p (.bool false)],[])
    else
      (C 23 [.p (.list false [.int .i64] [.int .i64 0,.int .i64 10])] []).bind fun r12 =>
      (C 12 [.p (.list true [.int .i64,.int .i64,.int .i64] ((((r3.1.headD .undef).freshList).drop 0).take ((r3.1.headD .undef).freshList.length))),.p (.list true [.int .i64,.int .i64,.int .i64] ((((r12.1.headD .undef).freshList).drop 0).take ((r12.1.headD .undef).freshList.length)))] []).bind fun r13 =>
      bif (!(r13.1.headD .undef).pv.toBool) then
        some ([.p (.bool false)],[])
      else
        bif ((r3.1.tail.headD .undef).pv.toInt != (0 : Int)) then
          some ([.p (.bool false)],[])
        else
          bif ((r4.1.tail.headD .undef).pv.toInt != (3 : Int)) then
            some ([.p (.bool false)],[])
          else
            (C 19 [.p (.int .i64 (-1)),.p (.int .i64 0),.p (.int .i64 0)] []).bind fun r14 =>
            (C 19 [.p (.int .i64 1),.p (.int .i64 1),.p (.int .i64 0)] []).bind fun r15 =>
            (C 19 [.p (.int .i64 0),.p (.int .i64 0),.p (.int .i64 0)] []).bind fun r16 =>
            (C 12 [.p (.list true [.int .i64,.int .i64,.int .i64] ((((r9.1.headD .undef).freshList).drop 0).take ((r9.1.headD .undef).freshList.length))),.p (.list true [.int .i64,.int .i64,.int .i64] [.agg [.int .i64 (((r14.1.headD .undef).pv.cell 0).toInt),.int .i64 (((r14.1.headD .undef).pv.cell 1).toInt),.int .i64 (((r14.1.headD .undef).pv.cell 2).toInt)],.agg [.int .i64 (((r15.1.headD .undef).pv.cell 0).toInt),.int .i64 (((r15.1.headD .undef).pv.cell 1).toInt),.int .i64 (((r15.1.headD .undef).pv.cell 2).toInt)],.agg [.int .i64 (((r16.1.headD .undef).pv.cell 0).toInt),.int .i64 (((r16.1.headD .undef).pv.cell 1).toInt),.int .i64 (((r16.1.headD .undef).pv.cell 2).toInt)]])] []).bind fun r17 =>
            bif (!(r17.1.headD .undef).pv.toBool) then
              some ([.p (.bool false)],[])
            else
              bif ((r9.1.tail.headD .undef).pv.toInt != (0 : Int)) then
                some ([.p (.bool false)],[])
              else
                (C 23 [.p (.list false [.int .i64] [.int .i64 0,.int .i64 1,.int .i64 4])] []).bind fun r18 =>
                (C 13 [.p (.list true [.int .i64,.int .i64,.int .i64] ((((r18.1.headD .undef).freshList).drop 0).take ((r18.1.headD .undef).freshList.length)))] []).bind fun r19 =>
                (C 23 [.p (.list false [.int .i64] [.int .i64 0])] []).bind fun r20 =>
                (C 13 [.p (.list true [.int .i64,.int .i64,.int .i64] ((((r20.1.headD .undef).freshList).drop 0).take ((r20.1.headD .undef).freshList.length)))] []).bind fun r21 =>
                (C 23 [.p (.list false [.int .i64] [.int .i64 0,.int .i64 1,.int .i64 4])] []).bind fun r22 =>
                (C 23 [.p (.list false [.int .i64] [.int .i64 0,.int .i64 4])] []).bind fun r23 =>
                (C 15 [.p (.list true [.int .i64,.int .i64,.int .i64] ((((r22.1.headD .undef).freshList).drop 0).take ((r22.1.headD .undef).freshList.length))),.p (.list true [.int .i64,.int .i64,.int .i64] ((((r23.1.headD .undef).freshList).drop 0).take ((r23.1.headD .undef).freshList.length)))] []).bind fun r24 =>
                (C 23 [.p (.list false [.int .i64] [.int .i64 0])] []).bind fun r25 =>
                (C 15 [.p (.list true [.int .i64,.int .i64,.int .i64] []),.p (.list true [.int .i64,.int .i64,.int .i64] ((((r25.1.headD .undef).freshList).drop 0).take ((r25.1.headD .undef).freshList.length)))] []).bind fun r26 =>
                (C 23 [.p (.list false [.int .i64] [.int .i64 0])] []).bind fun r27 =>
                (C 15 [.p (.list true [.int .i64,.int .i64,.int .i64] ((((r27.1.headD .undef).freshList).drop 0).take ((r27.1.headD .undef).freshList.length))),.p (.list true [.int .i64,.int .i64,.int .i64] [])] []).bind fun r28 =>
                (C 23 [.p (.list false [.int .i64] [.int .i64 0,.int .i64 8])] []).bind fun r29 =>
                (C 17 [.p (.list true [.int .i64,.slice true [.int .i64,.int .i64,.int .i64],.int .i64,.int .i64,.int .i64,.int .i64] [.agg [.int .i64 2,.list true [.int .i64,.int .i64,.int .i64] ((((r29.1.headD .undef).freshList).drop 0).take ((r29.1.headD .undef).freshList.length)),.int .i64 4,.int .i64 0,.int .i64 0,.int .i64 0]]),.p (.int .i64 3)] []).bind fun r30 =>
                bif ((r19.1.headD .undef).pv.toInt == (1 : Int)) then
                  bif ((r19.1.tail.headD .undef).pv.toInt == (0 : Int)) then
                    bif ((r21.1.tail.headD .undef).pv.toInt == (9 : Int)) then
                      bif ((r24.1.headD .undef).pv.toInt == (1 : Int)) then
                        bif ((r24.1.tail.headD .undef).pv.toInt == (0 : Int)) then
                          bif ((r26.1.headD .undef).pv.toInt == (0 : Int)) then
                            bif ((r26.1.tail.headD .undef).pv.toInt == (0 : Int)) then
                              bif ((r28.1.tail.headD .undef).pv.toInt == (9 : Int)) then
                                (C 23 [.p (.list false [.int .i64] [.int .i64 0,.int .i64 4,.int .i64 8])] []).bind fun r31 =>
                                (C 12 [.p (.list true [.int .i64,.int .i64,.int .i64] ((((r30.1.headD .undef).freshList).drop 0).take ((r30.1.headD .undef).freshList.length))),.p (.list true [.int .i64,.int .i64,.int .i64] ((((r31.1.headD .undef).freshList).drop 0).take ((r31.1.headD .undef).freshList.length)))] []).bind fun r32 =>
                                bif (r32.1.headD .undef).pv.toBool then
                                  some ([.p (.bool ((r30.1.tail.headD .undef).pv.toInt == (0 : Int)))],[])
                                else
                                  some ([.p (.bool false)],[])
                              else
                                some ([.p (.bool false)],[])
                            else
                              some ([.p (.bool false)],[])
                          else
                            some ([.p (.bool false)],[])
                        else
                          some ([.p (.bool false)],[])
                      else
                        some ([.p (.bool false)],[])
                    else
                      some ([.p (.bool false)],[])
                  else
                    some ([.p (.bool false)],[])
                else
                  some ([.p (.bool false)],[]) := by kernel_rfl
def S10_1111111010 (l' : List PV) (out_o : Nat) (out_l : Nat) (t30' : Int) (t31' : Int) (b28_b : List PV) (nearest_b0_o : Nat) (nearest_b0_l : Nat) (out_b : List PV) : St := ⟨(.p (.list true [.int .i64,.int .i64,.int .i64] l'))::.undef::.undef::.undef::.undef::.undef::.undef::(.ptr 7 0 0)::(.fn 27 [.ptr 7 0 0])::(.slice 9 3 out_o out_l)::.undef::.undef::.undef::.undef::.undef::.undef::.undef::.undef::.undef::.undef::.undef::.undef::.undef::.undef::.undef::.undef::.undef::.undef::.undef::.undef::(.p (.int .i64 t30'))::(.p (.int .i64 t31'))::List.replicate 38 .undef,[(28,.arr false [.int .i64] b28_b),(7,.box [.slice 28 1 nearest_b0_o nearest_b0_l]),(9,.arr true [.int .i64,.int .i64,.int .i64] out_b)]⟩
def S10_1111111010_110011010 (l' : List PV) (out_o : Nat) (out_l : Nat) (k' : Int) (t30' : Int) (t31' : Int) (t43' : Int) (t44' : Int) (b28_b : List PV) (nearest_b0_o : Nat) (nearest_b0_l : Nat) (out_b : List PV) : St := ⟨(.p (.list true [.int .i64,.int .i64,.int .i64] l'))::.undef::.undef::.undef::.undef::.undef::.undef::(.ptr 7 0 0)::(.fn 27 [.ptr 7 0 0])::(.slice 9 3 out_o out_l)::(.p (.int .i64 k'))::.undef::.undef::.undef::.undef::.undef::.undef::.undef::.undef::.undef::.undef::.undef::.undef::.undef::.undef::.undef::.undef::.undef::.undef::.undef::(.p (.int .i64 t30'))::(.p (.int .i64 t31'))::.undef::.undef::.undef::.undef::.undef::.undef::.undef::.undef::.undef::.undef::.undef::(.p (.int .i64 t43'))::(.p (.int .i64 t44'))::List.replicate 25 .undef,[(28,.arr false [.int .i64] b28_b),(7,.box [.slice 28 1 nearest_b0_o nearest_b0_l]),(9,.arr true [.int .i64,.int .i64,.int .i64] out_b)]⟩
theorem e10 (C : CallF) (l : List PV) (many : Int) : acallI tab C 10 [.p (.list true [.int .i64,.int .i64,.int .i64] l),.p (.int .i64 many)] [] =
  (C 24 [.p (.list true [.int .i64,.int .i64,.int .i64] l)] []).bind fun r1 =>
  bif (!(r1.1.headD .undef).pv.toBool) then
    some ([.fresh true [.int .i64,.int .i64,.int .i64] [],.p (.int .i64 2)],[])
  else
    bif (ltI many (0 : Int)) then
      some ([.fresh true [.int .i64,.int .i64,.int .i64] [],.p (.int .i64 2)],[])
    else
      bif (gtI many ((l.length : Nat) : Int)) then
        some ([.fresh true [.int .i64,.int .i64,.int .i64] [],.p (.int .i64 3)],[])
      else
        (C 25 [.p (.list false [.int .i64] [.int .i64 1125899906842624]),.p (.int .i64 ((l.length : Nat) : Int))] []).bind fun r2 =>
        (C 26 [.p (.list false [.int .i64] ((((r2.1.headD .undef).freshList).drop 0).take ((r2.1.headD .undef).freshList.length)))] []).bind fun r3 =>
        L tab C 10 [] [.lp [1,1,1,1,1,1,1,0,1,0]] (S10_1111111010 l 0 0 many 0 ((r3.1.headD .undef).freshList) 0 ((r3.1.headD .undef).freshList.length) []) := by kernel_rfl
theorem e10_1111111010 (C : CallF) (l' : List PV) (out_o : Nat) (out_l : Nat) (t30' : Int) (t31' : Int) (b28_b : List PV) (nearest_b0_o : Nat) (nearest_b0_l : Nat) (out_b : List PV) : R tab C 10 [] [.lp [1,1,1,1,1,1,1,0,1,0]] (S10_1111111010 l' out_o out_l t30' t31' b28_b nearest_b0_o nearest_b0_l out_b) =
  bif (ltI t31' t30') then
    (C 27 [.p (.ref [.list false [.int .i64] ((b28_b.drop nearest_b0_o).take nearest_b0_l)])] []).bind fun r1 =>
    bif ((leI (0 : Int) ((r1.1.headD .undef).pv.toInt)) && (ltI ((r1.1.headD .undef).pv.toInt) ((l'.length : Nat) : Int))) then bif (leN (out_l + 1) 2147483648) then L tab C 10 [] [.lp [1,1,1,1,1,1,1,0,1,0],.lp [1,1,0,0,1,1,0,1,0]] (S10_1111111010_110011010 l' 0 (out_l + 1) ((r1.1.headD .undef).pv.toInt) t30' t31' (nearest_b0_l : Int) 0 b28_b nearest_b0_o nearest_b0_l (((out_b.drop out_o).take out_l) ++ ([.agg [.int .i64 (((l'.getD ((r1.1.headD .undef).pv.toInt.toNat) .nil).cell 0).toInt),.int .i64 (((l'.getD ((r1.1.headD .undef).pv.toInt.toNat) .nil).cell 1).toInt),.int .i64 (((l'.getD ((r1.1.headD .undef).pv.toInt.toNat) .nil).cell 2).toInt)]] : List PV))) else none else none
  else
    some ([.fresh true [.int .i64,.int .i64,.int .i64] ((out_b.drop out_o).take out_l),.p (.int .i64 0)],[]) := by kernel_rfl
theorem e10_1111111010_110011010 (C : CallF) (l' : List PV) (out_o : Nat) (out_l : Nat) (k' : Int) (t30' : Int) (t31' : Int) (t43' : Int) (t44' : Int) (b28_b : List PV) (nearest_b0_o : Nat) (nearest_b0_l : Nat) (out_b : List PV) : R tab C 10 [] [.lp [1,1,1,1,1,1,1,0,1,0],.lp [1,1,0,0,1,1,0,1,0]] (S10_1111111010_110011010 l' out_o out_l k' t30' t31' t43' t44' b28_b nearest_b0_o nearest_b0_l out_b) =
  bif (ltI t44' t43') then
    bif ((leI (0 : Int) t44') && (ltI t44' (nearest_b0_l : Int))) then bif ((leI (0 : Int) t44') && (ltI t44' ((l'.length : Nat) : Int))) then bif ((leI (0 : Int) k') && (ltI k' ((l'.length : Nat) : Int))) then (C 28 [.p (.agg [.int .i64 (((l'.getD t44'.toNat .nil).cell 0).toInt),.int .i64 (((l'.getD t44'.toNat .nil).cell 1).toInt),.int .i64 (((l'.getD t44'.toNat .nil).cell 2).toInt)]),.p (.agg [.int .i64 (((l'.getD k'.toNat .nil).cell 0).toInt),.int .i64 (((l'.getD k'.toNat .nil).cell 1).toInt),.int .i64 (((l'.getD k'.toNat .nil).cell 2).toInt)])] []).bind fun r1 =>
    bif ((leI (0 : Int) t44') && (ltI t44' (nearest_b0_l : Int))) then L tab C 10 [] [.lp [1,1,1,1,1,1,1,0,1,0],.lp [1,1,0,0,1,1,0,1,0]] (S10_1111111010_110011010 l' out_o out_l k' t30' t31' t43' (IntKind.i64.wrap (t44' + (1 : Int))) (b28_b.set (nearest_b0_o + t44'.toNat) (PV.int .i64 (goMin (((b28_b.getD (nearest_b0_o + t44'.toNat) .nil).cell 0).toInt) ((r1.1.headD .undef).pv.toInt)))) nearest_b0_o nearest_b0_l out_b) else none else none else none else none
  else
    bif ((leI (0 : Int) k') && (ltI k' (nearest_b0_l : Int))) then L tab C 10 [] [.lp [1,1,1,1,1,1,1,0,1,0]] (S10_1111111010 l' out_o out_l t30' (IntKind.i64.wrap (t31' + (1 : Int))) (b28_b.set (nearest_b0_o + k'.toNat) (PV.int .i64 (-1))) nearest_b0_o nearest_b0_l out_b) else none := by kernel_rfl
def S11_111100 (l' : List PV) (many' : Int) (out_o : Nat) (out_l : Nat) (out_b : List PV) : St := ⟨(.p (.list true [.int .i64,.int .i64,.int .i64] l'))::(.p (.int .i64 many'))::.undef::.undef::.undef::.undef::(.slice 6 3 out_o out_l)::List.replicate 60 .undef,[(6,.arr true [.int .i64,.int .i64,.int .i64] out_b)]⟩
def S11_111100_101010 (l' : List PV) (many' : Int) (out_o : Nat) (out_l : Nat) (best' : Int) (i' : Int) (out_b : List PV) : St := ⟨(.p (.list true [.int .i64,.int .i64,.int .i64] l'))::(.p (.int .i64 many'))::.undef::.undef::.undef::.undef::(.slice 6 3 out_o out_l)::(.p (.int .i64 best'))::(.p (.int .i64 i'))::List.replicate 58 .undef,[(6,.arr true [.int .i64,.int .i64,.int .i64] out_b)]⟩
theorem e11 (C : CallF) (l : List PV) (many : Int) : acallI tab C 11 [.p (.list true [.int .i64,.int .i64,.int .i64] l),.p (.int .i64 many)] [] =
  (C 20 [.p (.list true [.int .i64,.int .i64,.int .i64] l)] []).bind fun r1 =>
  bif (!(r1.1.headD .undef).pv.toBool) then
    some ([.fresh true [.int .i64,.int .i64,.int .i64] [],.p (.int .i64 2)],[])
  else
    bif (ltI many (0 : Int)) then
      some ([.fresh true [.int .i64,.int .i64,.int .i64] [],.p (.int .i64 2)],[])
    else
      bif (gtI many ((l.length : Nat) : Int)) then
        some ([.fresh true [.int .i64,.int .i64,.int .i64] [],.p (.int .i64 3)],[])
      else
        L tab C 11 [] [.lp [1,1,1,1,0,0]] (S11_111100 l many 0 0 []) := by kernel_rfl
theorem e11_111100 (C : CallF) (l' : List PV) (many' : Int) (out_o : Nat) (out_l : Nat) (out_b : List PV) : R tab C 11 [] [.lp [1,1,1,1,0,0]] (S11_111100 l' many' out_o out_l out_b) =
  bif (ltI (out_l : Int) many') then
    L tab C 11 [] [.lp [1,1,1,1,0,0],.lp [1,0,1,0,1,0]] (S11_111100_101010 l' many' out_o out_l (-1) 0 out_b)
  else
    some ([.fresh true [.int .i64,.int .i64,.int .i64] ((out_b.drop out_o).take out_l),.p (.int .i64 0)],[]) := by kernel_rfl
theorem e11_111100_101010 (C : CallF) (l' : List PV) (many' : Int) (out_o : Nat) (out_l : Nat) (best' : Int) (i' : Int) (out_b : List PV) : R tab C 11 [] [.lp [1,1,1,1,0,0],.lp [1,0,1,0,1,0]] (S11_111100_101010 l' many' out_o out_l best' i' out_b) =
  bif (ltI i' ((l'.length : Nat) : Int)) then
    bif ((leI (0 : Int) i') && (ltI i' ((l'.length : Nat) : Int))) then (C 29 [.p (.list true [.int .i64,.int .i64,.int .i64] ((out_b.drop out_o).take out_l)),.p (.agg [.int .i64 (((l'.getD i'.toNat .nil).cell 0).toInt),.int .i64 (((l'.getD i'.toNat .nil).cell 1).toInt),.int .i64 (((l'.getD i'.toNat .nil).cell 2).toInt)])] []).bind fun r1 =>
    bif (r1.1.headD .undef).pv.toBool then
      L tab C 11 [] [.lp [1,1,1,1,0,0],.lp [1,0,1,0,1,0]] (S11_111100_101010 l' many' out_o out_l best' (IntKind.i64.wrap (i' + (1 : Int))) out_b)
    else
      bif (ltI best' (0 : Int)) then
        L tab C 11 [] [.lp [1,1,1,1,0,0],.lp [1,0,1,0,1,0]] (S11_111100_101010 l' many' out_o out_l i' (IntKind.i64.wrap (i' + (1 : Int))) out_b)
      else
        bif (gtI (out_l : Int) (0 : Int)) then
          bif ((leI (0 : Int) i') && (ltI i' ((l'.length : Nat) : Int))) then (C 30 [.p (.agg [.int .i64 (((l'.getD i'.toNat .nil).cell 0).toInt),.int .i64 (((l'.getD i'.toNat .nil).cell 1).toInt),.int .i64 (((l'.getD i'.toNat .nil).cell 2).toInt)]),.p (.list true [.int .i64,.int .i64,.int .i64] ((out_b.drop out_o).take out_l))] []).bind fun r2 =>
          bif ((leI (0 : Int) best') && (ltI best' ((l'.length : Nat) : Int))) then (C 30 [.p (.agg [.int .i64 (((l'.getD best'.toNat .nil).cell 0).toInt),.int .i64 (((l'.getD best'.toNat .nil).cell 1).toInt),.int .i64 (((l'.getD best'.toNat .nil).cell 2).toInt)]),.p (.list true [.int .i64,.int .i64,.int .i64] ((out_b.drop out_o).take out_l))] []).bind fun r3 =>
          bif (gtI ((r2.1.headD .undef).pv.toInt) ((r3.1.headD .undef).pv.toInt)) then
            L tab C 11 [] [.lp [1,1,1,1,0,0],.lp [1,0,1,0,1,0]] (S11_111100_101010 l' many' out_o out_l i' (IntKind.i64.wrap (i' + (1 : Int))) out_b)
          else
            L tab C 11 [] [.lp [1,1,1,1,0,0],.lp [1,0,1,0,1,0]] (S11_111100_101010 l' many' out_o out_l best' (IntKind.i64.wrap (i' + (1 : Int))) out_b) else none else none
        else
          L tab C 11 [] [.lp [1,1,1,1,0,0],.lp [1,0,1,0,1,0]] (S11_111100_101010 l' many' out_o out_l best' (IntKind.i64.wrap (i' + (1 : Int))) out_b) else none
  else
    bif ((leI (0 : Int) best') && (ltI best' ((l'.length : Nat) : Int))) then bif (leN (out_l + 1) 2147483648) then L tab C 11 [] [.lp [1,1,1,1,0,0]] (S11_111100 l' many' 0 (out_l + 1) (((out_b.drop out_o).take out_l) ++ ([.agg [.int .i64 (((l'.getD best'.toNat .nil).cell 0).toInt),.int .i64 (((l'.getD best'.toNat .nil).cell 1).toInt),.int .i64 (((l'.getD best'.toNat .nil).cell 2).toInt)]] : List PV))) else none else none := by kernel_rfl
def S12_11010 (a' : List PV) (b' : List PV) (i' : Int) : St := ⟨(.p (.list true [.int .i64,.int .i64,.int .i64] a'))::(.p (.list true [.int .i64,.int .i64,.int .i64] b'))::.undef::.undef::.undef::(.p (.int .i64 i'))::List.replicate 20 .undef,[]⟩
theorem e12 (C : CallF) (a : List PV) (b : List PV) : acallI tab C 12 [.p (.list true [.int .i64,.int .i64,.int .i64] a),.p (.list true [.int .i64,.int .i64,.int .i64] b)] [] =
  bif (((a.length : Nat) : Int) != ((b.length : Nat) : Int)) then
    some ([.p (.bool false)],[])
  else
    L tab C 12 [] [.lp [1,1,0,1,0]] (S12_11010 a b 0) := by kernel_rfl
theorem e12_11010 (C : CallF) (a' : List PV) (b' : List PV) (i' : Int) : R tab C 12 [] [.lp [1,1,0,1,0]] (S12_11010 a' b' i') =
  bif (ltI i' ((a'.length : Nat) : Int)) then
    bif ((leI (0 : Int) i') && (ltI i' ((a'.length : Nat) : Int))) then bif ((leI (0 : Int) i') && (ltI i' ((b'.length : Nat) : Int))) then bif (!((((a'.getD i'.toNat .nil).cell 0).toInt == ((b'.getD i'.toNat .nil).cell 0).toInt) && ((((a'.getD i'.toNat .nil).cell 1).toInt == ((b'.getD i'.toNat .nil).cell 1).toInt) && ((((a'.getD i'.toNat .nil).cell 2).toInt == ((b'.getD i'.toNat .nil).cell 2).toInt) && true)))) then
      some ([.p (.bool false)],[])
    else
      L tab C 12 [] [.lp [1,1,0,1,0]] (S12_11010 a' b' (IntKind.i64.wrap (i' + (1 : Int)))) else none else none
  else
    some ([.p (.bool true)],[]) := by kernel_rfl
def S13_1111010 (l' : List PV) (least' : Int) (t15' : List PV) (t16' : Int) (t17' : Int) : St := ⟨(.p (.list true [.int .i64,.int .i64,.int .i64] l'))::.undef::.undef::.undef::(.p (.int .i64 least'))::.undef::.undef::.undef::.undef::.undef::.undef::.undef::.undef::.undef::.undef::(.p (.list true [.int .i64,.int .i64,.int .i64] t15'))::(.p (.int .i64 t16'))::(.p (.int .i64 t17'))::List.replicate 34 .undef,[]⟩
def S13_1111010_1100110 (l' : List PV) (least' : Int) (t15' : List PV) (t16' : Int) (t17' : Int) (t25' : List PV) (t26' : Int) (t27' : Int) (a_b0 : Int) (a_b1 : Int) (a_b2 : Int) : St := ⟨(.p (.list true [.int .i64,.int .i64,.int .i64] l'))::.undef::.undef::.undef::(.p (.int .i64 least'))::.undef::(.ptr 6 0 0)::.undef::.undef::.undef::.undef::.undef::.undef::.undef::.undef::(.p (.list true [.int .i64,.int .i64,.int .i64] t15'))::(.p (.int .i64 t16'))::(.p (.int .i64 t17'))::.undef::.undef::.undef::.undef::.undef::.undef::.undef::(.p (.list true [.int .i64,.int .i64,.int .i64] t25'))::(.p (.int .i64 t26'))::(.p (.int .i64 t27'))::List.replicate 24 .undef,[(6,.box [.p (.int .i64 a_b0),.p (.int .i64 a_b1),.p (.int .i64 a_b2)])]⟩
theorem e13 (C : CallF) (l : List PV) : acallI tab C 13 [.p (.list true [.int .i64,.int .i64,.int .i64] l)] [] =
  (C 24 [.p (.list true [.int .i64,.int .i64,.int .i64] l)] []).bind fun r1 =>
  bif (!(r1.1.headD .undef).pv.toBool) then
    some ([.p (.int .i64 0),.p (.int .i64 2)],[])
  else
    bif (ltI ((l.length : Nat) : Int) (2 : Int)) then
      some ([.p (.int .i64 0),.p (.int .i64 9)],[])
    else
      L tab C 13 [] [.lp [1,1,1,1,0,1,0]] (S13_1111010 l 1125899906842624 l ((l.length : Nat) : Int) 0) := by kernel_rfl
theorem e13_1111010 (C : CallF) (l' : List PV) (least' : Int) (t15' : List PV) (t16' : Int) (t17' : Int) : R tab C 13 [] [.lp [1,1,1,1,0,1,0]] (S13_1111010 l' least' t15' t16' t17') =
  bif (ltI t17' t16') then
    bif ((leI (0 : Int) t17') && (ltI t17' ((t15'.length : Nat) : Int))) then bif ((leI (0 : Int) (IntKind.i64.wrap (t17' + (1 : Int)))) && ((leI (IntKind.i64.wrap (t17' + (1 : Int))) ((l'.length : Nat) : Int)) && ((leI ((l'.length : Nat) : Int) ((l'.length : Nat) : Int)) && (leI ((l'.length : Nat) : Int) ((l'.length : Nat) : Int))))) then L tab C 13 [] [.lp [1,1,1,1,0,1,0],.lp [1,1,0,0,1,1,0]] (S13_1111010_1100110 l' least' t15' t16' t17' ((l'.drop ((IntKind.i64.wrap (t17' + (1 : Int))).toNat)).take ((((l'.length : Nat) : Int) - (IntKind.i64.wrap (t17' + (1 : Int)))).toNat)) ((((l'.drop ((IntKind.i64.wrap (t17' + (1 : Int))).toNat)).take ((((l'.length : Nat) : Int) - (IntKind.i64.wrap (t17' + (1 : Int)))).toNat)).length : Nat) : Int) 0 (((t15'.getD t17'.toNat .nil).cell 0).toInt) (((t15'.getD t17'.toNat .nil).cell 1).toInt) (((t15'.getD t17'.toNat .nil).cell 2).toInt)) else none else none
  else
    some ([.p (.int .i64 least'),.p (.int .i64 0)],[]) := by kernel_rfl
theorem e13_1111010_1100110 (C : CallF) (l' : List PV) (least' : Int) (t15' : List PV) (t16' : Int) (t17' : Int) (t25' : List PV) (t26' : Int) (t27' : Int) (a_b0 : Int) (a_b1 : Int) (a_b2 : Int) : R tab C 13 [] [.lp [1,1,1,1,0,1,0],.lp [1,1,0,0,1,1,0]] (S13_1111010_1100110 l' least' t15' t16' t17' t25' t26' t27' a_b0 a_b1 a_b2) =
  bif (ltI t27' t26') then
    bif ((leI (0 : Int) t27') && (ltI t27' ((t25'.length : Nat) : Int))) then bif (geI (IntKind.i64.wrap ((IntKind.i64.wrap (((t25'.getD t27'.toNat .nil).cell 0).toInt - a_b0)) * (IntKind.i64.wrap (((t25'.getD t27'.toNat .nil).cell 0).toInt - a_b0)))) least') then
      L tab C 13 [] [.lp [1,1,1,1,0,1,0]] (S13_1111010 l' least' t15' t16' (IntKind.i64.wrap (t17' + (1 : Int))))
    else
      (C 28 [.p (.agg [.int .i64 a_b0,.int .i64 a_b1,.int .i64 a_b2]),.p (.agg [.int .i64 (((t25'.getD t27'.toNat .nil).cell 0).toInt),.int .i64 (((t25'.getD t27'.toNat .nil).cell 1).toInt),.int .i64 (((t25'.getD t27'.toNat .nil).cell 2).toInt)])] []).bind fun r1 =>
      L tab C 13 [] [.lp [1,1,1,1,0,1,0],.lp [1,1,0,0,1,1,0]] (S13_1111010_1100110 l' (goMin least' ((r1.1.headD .undef).pv.toInt)) t15' t16' t17' t25' t26' (IntKind.i64.wrap (t27' + (1 : Int))) a_b0 a_b1 a_b2) else none
  else
    L tab C 13 [] [.lp [1,1,1,1,0,1,0]] (S13_1111010 l' least' t15' t16' (IntKind.i64.wrap (t17' + (1 : Int)))) := by kernel_rfl
def S14_1111010 (l' : List PV) (n_' : Int) (i' : Int) : St := ⟨(.p (.list true [.int .i64,.int .i64,.int .i64] l'))::.undef::.undef::.undef::(.p (.int .i64 n_'))::(.p (.int .i64 i'))::List.replicate 38 .undef,[]⟩
theorem e14 (C : CallF) (l : List PV) : acallI tab C 14 [.p (.list true [.int .i64,.int .i64,.int .i64] l)] [] =
  (C 20 [.p (.list true [.int .i64,.int .i64,.int .i64] l)] []).bind fun r1 =>
  bif (!(r1.1.headD .undef).pv.toBool) then
    some ([.p (.int .i64 0),.p (.int .i64 2)],[])
  else
    bif (ltI ((l.length : Nat) : Int) (2 : Int)) then
      some ([.p (.int .i64 0),.p (.int .i64 9)],[])
    else
      bif (ltI (0 : Int) ((l.length : Nat) : Int)) then bif (ltI (1 : Int) ((l.length : Nat) : Int)) then (C 21 [.p (.agg [.int .i64 (((l.getD 0 .nil).cell 0).toInt),.int .i64 (((l.getD 0 .nil).cell 1).toInt),.int .i64 (((l.getD 0 .nil).cell 2).toInt)]),.p (.agg [.int .i64 (((l.getD 1 .nil).cell 0).toInt),.int .i64 (((l.getD 1 .nil).cell 1).toInt),.int .i64 (((l.getD 1 .nil).cell 2).toInt)])] []).bind fun r2 =>
      L tab C 14 [] [.lp [1,1,1,1,0,1,0]] (S14_1111010 l ((r2.1.headD .undef).pv.toInt) 1) else none else none := by kernel_rfl
theorem e14_1111010 (C : CallF) (l' : List PV) (n_' : Int) (i' : Int) : R tab C 14 [] [.lp [1,1,1,1,0,1,0]] (S14_1111010 l' n_' i') =
  bif (ltI i' ((l'.length : Nat) : Int)) then
    bif ((leI (0 : Int) i') && (ltI i' ((l'.length : Nat) : Int))) then bif ((leI (0 : Int) i') && ((leI i' ((l'.length : Nat) : Int)) && (leI ((l'.length : Nat) : Int) ((l'.length : Nat) : Int)))) then (C 30 [.p (.agg [.int .i64 (((l'.getD i'.toNat .nil).cell 0).toInt),.int .i64 (((l'.getD i'.toNat .nil).cell 1).toInt),.int .i64 (((l'.getD i'.toNat .nil).cell 2).toInt)]),.p (.list true [.int .i64,.int .i64,.int .i64] ((l'.drop 0).take ((i' - (0 : Int)).toNat)))] []).bind fun r1 =>
    bif (ltI ((r1.1.headD .undef).pv.toInt) n_') then
      bif ((leI (0 : Int) i') && (ltI i' ((l'.length : Nat) : Int))) then bif ((leI (0 : Int) i') && ((leI i' ((l'.length : Nat) : Int)) && (leI ((l'.length : Nat) : Int) ((l'.length : Nat) : Int)))) then (C 30 [.p (.agg [.int .i64 (((l'.getD i'.toNat .nil).cell 0).toInt),.int .i64 (((l'.getD i'.toNat .nil).cell 1).toInt),.int .i64 (((l'.getD i'.toNat .nil).cell 2).toInt)]),.p (.list true [.int .i64,.int .i64,.int .i64] ((l'.drop 0).take ((i' - (0 : Int)).toNat)))] []).bind fun r2 =>
      L tab C 14 [] [.lp [1,1,1,1,0,1,0]] (S14_1111010 l' ((r2.1.headD .undef).pv.toInt) (IntKind.i64.wrap (i' + (1 : Int)))) else none else none
    else
      L tab C 14 [] [.lp [1,1,1,1,0,1,0]] (S14_1111010 l' n_' (IntKind.i64.wrap (i' + (1 : Int)))) else none else none
  else
    some ([.p (.int .i64 n_'),.p (.int .i64 0)],[]) := by kernel_rfl
def S15_1111010 (chosen' : List PV) (most' : Int) (t23' : List PV) (t24' : Int) (t25' : Int) : St := ⟨.undef::(.p (.list true [.int .i64,.int .i64,.int .i64] chosen'))::.undef::.undef::.undef::.undef::(.p (.int .i64 most'))::.undef::.undef::.undef::.undef::.undef::.undef::.undef::.undef::.undef::.undef::.undef::.undef::.undef::.undef::.undef::.undef::(.p (.list true [.int .i64,.int .i64,.int .i64] t23'))::(.p (.int .i64 t24'))::(.p (.int .i64 t25'))::List.replicate 20 .undef,[]⟩
def S15_1111010_110011010 (chosen' : List PV) (most' : Int) (least' : Int) (t23' : List PV) (t24' : Int) (t25' : Int) (t29' : List PV) (t30' : Int) (t31' : Int) (a_b0 : Int) (a_b1 : Int) (a_b2 : Int) : St := ⟨.undef::(.p (.list true [.int .i64,.int .i64,.int .i64] chosen'))::.undef::.undef::.undef::.undef::(.p (.int .i64 most'))::.undef::(.ptr 8 0 0)::(.p (.int .i64 least'))::.undef::.undef::.undef::.undef::.undef::.undef::.undef::.undef::.undef::.undef::.undef::.undef::.undef::(.p (.list true [.int .i64,.int .i64,.int .i64] t23'))::(.p (.int .i64 t24'))::(.p (.int .i64 t25'))::.undef::.undef::.undef::(.p (.list true [.int .i64,.int .i64,.int .i64] t29'))::(.p (.int .i64 t30'))::(.p (.int .i64 t31'))::List.replicate 14 .undef,[(8,.box [.p (.int .i64 a_b0),.p (.int .i64 a_b1),.p (.int .i64 a_b2)])]⟩
theorem e15 (C : CallF) (l : List PV) (chosen : List PV) : acallI tab C 15 [.p (.list true [.int .i64,.int .i64,.int .i64] l),.p (.list true [.int .i64,.int .i64,.int .i64] chosen)] [] =
  (C 24 [.p (.list true [.int .i64,.int .i64,.int .i64] l)] []).bind fun r1 =>
  bif (!(r1.1.headD .undef).pv.toBool) then
    some ([.p (.int .i64 0),.p (.int .i64 2)],[])
  else
    (C 31 [.p (.list true [.int .i64,.int .i64,.int .i64] chosen)] []).bind fun r2 =>
    bif (!(r2.1.headD .undef).pv.toBool) then
      some ([.p (.int .i64 0),.p (.int .i64 2)],[])
    else
      bif (((chosen.length : Nat) : Int) == (0 : Int)) then
        some ([.p (.int .i64 0),.p (.int .i64 9)],[])
      else
        L tab C 15 [] [.lp [1,1,1,1,0,1,0]] (S15_1111010 chosen 0 l ((l.length : Nat) : Int) 0) := by kernel_rfl
theorem e15_1111010 (C : CallF) (chosen' : List PV) (most' : Int) (t23' : List PV) (t24' : Int) (t25' : Int) : R tab C 15 [] [.lp [1,1,1,1,0,1,0]] (S15_1111010 chosen' most' t23' t24' t25') =
  bif (ltI t25' t24') then
    bif ((leI (0 : Int) t25') && (ltI t25' ((t23'.length : Nat) : Int))) then L tab C 15 [] [.lp [1,1,1,1,0,1,0],.lp [1,1,0,0,1,1,0,1,0]] (S15_1111010_110011010 chosen' most' 1125899906842624 t23' t24' t25' chosen' ((chosen'.length : Nat) : Int) 0 (((t23'.getD t25'.toNat .nil).cell 0).toInt) (((t23'.getD t25'.toNat .nil).cell 1).toInt) (((t23'.getD t25'.toNat .nil).cell 2).toInt)) else none
  else
    some ([.p (.int .i64 most'),.p (.int .i64 0)],[]) := by kernel_rfl
theorem e15_1111010_110011010 (C : CallF) (chosen' : List PV) (most' : Int) (least' : Int) (t23' : List PV) (t24' : Int) (t25' : Int) (t29' : List PV) (t30' : Int) (t31' : Int) (a_b0 : Int) (a_b1 : Int) (a_b2 : Int) : R tab C 15 [] [.lp [1,1,1,1,0,1,0],.lp [1,1,0,0,1,1,0,1,0]] (S15_1111010_110011010 chosen' most' least' t23' t24' t25' t29' t30' t31' a_b0 a_b1 a_b2) =
  bif (ltI t31' t30') then
    bif ((leI (0 : Int) t31') && (ltI t31' ((t29'.length : Nat) : Int))) then (C 28 [.p (.agg [.int .i64 a_b0,.int .i64 a_b1,.int .i64 a_b2]),.p (.agg [.int .i64 (((t29'.getD t31'.toNat .nil).cell 0).toInt),.int .i64 (((t29'.getD t31'.toNat .nil).cell 1).toInt),.int .i64 (((t29'.getD t31'.toNat .nil).cell 2).toInt)])] []).bind fun r1 =>
    L tab C 15 [] [.lp [1,1,1,1,0,1,0],.lp [1,1,0,0,1,1,0,1,0]] (S15_1111010_110011010 chosen' most' (goMin least' ((r1.1.headD .undef).pv.toInt)) t23' t24' t25' t29' t30' (IntKind.i64.wrap (t31' + (1 : Int))) a_b0 a_b1 a_b2) else none
  else
    L tab C 15 [] [.lp [1,1,1,1,0,1,0]] (S15_1111010 chosen' (goMax most' least') t23' t24' (IntKind.i64.wrap (t25' + (1 : Int)))) := by kernel_rfl
def S16_1111010 (l' : List PV) (chosen' : List PV) (n_' : Int) (i' : Int) : St := ⟨(.p (.list true [.int .i64,.int .i64,.int .i64] l'))::(.p (.list true [.int .i64,.int .i64,.int .i64] chosen'))::.undef::.undef::.undef::.undef::(.p (.int .i64 n_'))::(.p (.int .i64 i'))::List.replicate 37 .undef,[]⟩
theorem e16 (C : CallF) (l : List PV) (chosen : List PV) : acallI tab C 16 [.p (.list true [.int .i64,.int .i64,.int .i64] l),.p (.list true [.int .i64,.int .i64,.int .i64] chosen)] [] =
  (C 20 [.p (.list true [.int .i64,.int .i64,.int .i64] l)] []).bind fun r1 =>
  bif (!(r1.1.headD .undef).pv.toBool) then
    some ([.p (.int .i64 0),.p (.int .i64 2)],[])
  else
    bif (gtI ((chosen.length : Nat) : Int) (4096 : Int)) then
      some ([.p (.int .i64 0),.p (.int .i64 2)],[])
    else
      (C 32 [.p (.list true [.int .i64,.int .i64,.int .i64] chosen)] []).bind fun r2 =>
      bif (!(r2.1.headD .undef).pv.toBool) then
        some ([.p (.int .i64 0),.p (.int .i64 2)],[])
      else
        bif (((chosen.length : Nat) : Int) == (0 : Int)) then
          some ([.p (.int .i64 0),.p (.int .i64 9)],[])
        else
          L tab C 16 [] [.lp [1,1,1,1,0,1,0]] (S16_1111010 l chosen 0 0) := by kernel_rfl
theorem e16_1111010 (C : CallF) (l' : List PV) (chosen' : List PV) (n_' : Int) (i' : Int) : R tab C 16 [] [.lp [1,1,1,1,0,1,0]] (S16_1111010 l' chosen' n_' i') =
  bif (ltI i' ((l'.length : Nat) : Int)) then
    bif ((leI (0 : Int) i') && (ltI i' ((l'.length : Nat) : Int))) then (C 30 [.p (.agg [.int .i64 (((l'.getD i'.toNat .nil).cell 0).toInt),.int .i64 (((l'.getD i'.toNat .nil).cell 1).toInt),.int .i64 (((l'.getD i'.toNat .nil).cell 2).toInt)]),.p (.list true [.int .i64,.int .i64,.int .i64] chosen')] []).bind fun r1 =>
    bif (gtI ((r1.1.headD .undef).pv.toInt) n_') then
      bif ((leI (0 : Int) i') && (ltI i' ((l'.length : Nat) : Int))) then (C 30 [.p (.agg [.int .i64 (((l'.getD i'.toNat .nil).cell 0).toInt),.int .i64 (((l'.getD i'.toNat .nil).cell 1).toInt),.int .i64 (((l'.getD i'.toNat .nil).cell 2).toInt)]),.p (.list true [.int .i64,.int .i64,.int .i64] chosen')] []).bind fun r2 =>
      L tab C 16 [] [.lp [1,1,1,1,0,1,0]] (S16_1111010 l' chosen' ((r2.1.headD .undef).pv.toInt) (IntKind.i64.wrap (i' + (1 : Int)))) else none
    else
      L tab C 16 [] [.lp [1,1,1,1,0,1,0]] (S16_1111010 l' chosen' n_' (IntKind.i64.wrap (i' + (1 : Int)))) else none
  else
    some ([.p (.int .i64 n_'),.p (.int .i64 0)],[]) := by kernel_rfl
theorem e17 (C : CallF) (f : List PV) (many : Int) : acallI tab C 17 [.p (.list true [.int .i64,.slice true [.int .i64,.int .i64,.int .i64],.int .i64,.int .i64,.int .i64,.int .i64] f),.p (.int .i64 many)] [] =
  bif (ltI many (0 : Int)) then
    some ([.fresh true [.int .i64,.int .i64,.int .i64] [],.p (.int .i64 2)],[])
  else
    (C 33 [.p (.list true [.int .i64,.slice true [.int .i64,.int .i64,.int .i64],.int .i64,.int .i64,.int .i64,.int .i64] f)] []).bind fun r1 =>
    bif ((r1.1.tail.headD .undef).pv.toInt != (0 : Int)) then
      some ([.fresh true [.int .i64,.int .i64,.int .i64] [],.p (.int .i64 ((r1.1.tail.headD .undef).pv.toInt))],[])
    else
      (C 10 [.p (.list true [.int .i64,.int .i64,.int .i64] ((((r1.1.headD .undef).freshList).drop 0).take ((r1.1.headD .undef).freshList.length))),.p (.int .i64 many)] []).bind fun r2 =>
      bif ((r2.1.tail.headD .undef).pv.toInt != (0 : Int)) then
        some ([.fresh true [.int .i64,.int .i64,.int .i64] [],.p (.int .i64 ((r2.1.tail.headD .undef).pv.toInt))],[])
      else
        (C 34 [.slice 100000 3 0 ((r2.1.headD .undef).freshList.length),.p (.fn 35 [])] [.arr true [.int .i64,.int .i64,.int .i64] ((r2.1.headD .undef).freshList)]).bind fun r3 =>
        some ([.fresh true [.int .i64,.int .i64,.int .i64] ((((r3.2.headD (.box [])).xs).drop 0).take ((r2.1.headD .undef).freshList.length)),.p (.int .i64 0)],[]) := by kernel_rfl
def S18_1111111010 (l_o : Nat) (l_l : Nat) (picked_o : Nat) (picked_l : Nat) (out_o : Nat) (out_l : Nat) (i' : Int) (l_b : List PV) (picked_b : List PV) (out_b : List PV) : St := ⟨.undef::.undef::.undef::.undef::.undef::.undef::(.slice 6 3 l_o l_l)::.undef::(.slice 8 3 picked_o picked_l)::(.slice 9 3 out_o out_l)::(.p (.int .i64 i'))::List.replicate 44 .undef,[(6,.arr true [.int .i64,.int .i64,.int .i64] l_b),(8,.arr true [.int .i64,.int .i64,.int .i64] picked_b),(9,.arr true [.int .i64,.int .i64,.int .i64] out_b)]⟩
theorem e18 (C : CallF) (f : List PV) (many : Int) : acallI tab C 18 [.p (.list true [.int .i64,.slice true [.int .i64,.int .i64,.int .i64],.int .i64,.int .i64,.int .i64,.int .i64] f),.p (.int .i64 many)] [] =
  bif (ltI many (0 : Int)) then
    some ([.fresh true [.int .i64,.int .i64,.int .i64] [],.p (.int .i64 2)],[])
  else
    (C 36 [.p (.list true [.int .i64,.slice true [.int .i64,.int .i64,.int .i64],.int .i64,.int .i64,.int .i64,.int .i64] f)] []).bind fun r1 =>
    bif (!(r1.1.headD .undef).pv.toBool) then
      some ([.fresh true [.int .i64,.int .i64,.int .i64] [],.p (.int .i64 2)],[])
    else
      (C 37 [.p (.list true [.int .i64,.slice true [.int .i64,.int .i64,.int .i64],.int .i64,.int .i64,.int .i64,.int .i64] f)] []).bind fun r2 =>
      bif ((r2.1.tail.headD .undef).pv.toInt != (0 : Int)) then
        some ([.fresh true [.int .i64,.int .i64,.int .i64] [],.p (.int .i64 ((r2.1.tail.headD .undef).pv.toInt))],[])
      else
        (C 11 [.p (.list true [.int .i64,.int .i64,.int .i64] ((((r2.1.headD .undef).freshList).drop 0).take ((r2.1.headD .undef).freshList.length))),.p (.int .i64 many)] []).bind fun r3 =>
        bif ((r3.1.tail.headD .undef).pv.toInt != (0 : Int)) then
          some ([.fresh true [.int .i64,.int .i64,.int .i64] [],.p (.int .i64 ((r3.1.tail.headD .undef).pv.toInt))],[])
        else
          L tab C 18 [] [.lp [1,1,1,1,1,1,1,0,1,0]] (S18_1111111010 0 ((r2.1.headD .undef).freshList.length) 0 ((r3.1.headD .undef).freshList.length) 0 0 0 ((r2.1.headD .undef).freshList) ((r3.1.headD .undef).freshList) []) := by kernel_rfl
theorem e18_1111111010 (C : CallF) (l_o : Nat) (l_l : Nat) (picked_o : Nat) (picked_l : Nat) (out_o : Nat) (out_l : Nat) (i' : Int) (l_b : List PV) (picked_b : List PV) (out_b : List PV) : R tab C 18 [] [.lp [1,1,1,1,1,1,1,0,1,0]] (S18_1111111010 l_o l_l picked_o picked_l out_o out_l i' l_b picked_b out_b) =
  bif (ltI i' (l_l : Int)) then
    bif ((leI (0 : Int) i') && (ltI i' (l_l : Int))) then (C 29 [.p (.list true [.int .i64,.int .i64,.int .i64] ((picked_b.drop picked_o).take picked_l)),.p (.agg [.int .i64 (((l_b.getD (l_o + i'.toNat) .nil).cell 0).toInt),.int .i64 (((l_b.getD (l_o + i'.toNat) .nil).cell 1).toInt),.int .i64 (((l_b.getD (l_o + i'.toNat) .nil).cell 2).toInt)])] []).bind fun r1 =>
    bif (r1.1.headD .undef).pv.toBool then
      bif ((leI (0 : Int) i') && (ltI i' (l_l : Int))) then bif (leN (out_l + 1) 2147483648) then L tab C 18 [] [.lp [1,1,1,1,1,1,1,0,1,0]] (S18_1111111010 l_o l_l picked_o picked_l 0 (out_l + 1) (IntKind.i64.wrap (i' + (1 : Int))) l_b picked_b (((out_b.drop out_o).take out_l) ++ ([.agg [.int .i64 (((l_b.getD (l_o + i'.toNat) .nil).cell 0).toInt),.int .i64 (((l_b.getD (l_o + i'.toNat) .nil).cell 1).toInt),.int .i64 (((l_b.getD (l_o + i'.toNat) .nil).cell 2).toInt)]] : List PV))) else none else none
    else
      L tab C 18 [] [.lp [1,1,1,1,1,1,1,0,1,0]] (S18_1111111010 l_o l_l picked_o picked_l out_o out_l (IntKind.i64.wrap (i' + (1 : Int))) l_b picked_b out_b) else none
  else
    some ([.fresh true [.int .i64,.int .i64,.int .i64] ((out_b.drop out_o).take out_l),.p (.int .i64 0)],[]) := by kernel_rfl
theorem e19 (C : CallF) (x : Int) (y : Int) (z : Int) : acallI tab C 19 [.p (.int .i64 x),.p (.int .i64 y),.p (.int .i64 z)] [] =
  some ([.p (.agg [.int .i64 x,.int .i64 y,.int .i64 z])],[]) := by kernel_rfl
def S20_1010 (l' : List PV) (i' : Int) : St := ⟨(.p (.list true [.int .i64,.int .i64,.int .i64] l'))::.undef::.undef::(.p (.int .i64 i'))::List.replicate 25 .undef,[]⟩
theorem e20 (C : CallF) (l : List PV) : acallI tab C 20 [.p (.list true [.int .i64,.int .i64,.int .i64] l)] [] =
  L tab C 20 [] [.lp [1,0,1,0]] (S20_1010 l 0) := by kernel_rfl
theorem e20_1010 (C : CallF) (l' : List PV) (i' : Int) : R tab C 20 [] [.lp [1,0,1,0]] (S20_1010 l' i') =
  bif (ltI (IntKind.i64.wrap (i' + (1 : Int))) ((l'.length : Nat) : Int)) then
    bif ((leI (0 : Int) i') && (ltI i' ((l'.length : Nat) : Int))) then bif ((leI (0 : Int) (IntKind.i64.wrap (i' + (1 : Int)))) && (ltI (IntKind.i64.wrap (i' + (1 : Int))) ((l'.length : Nat) : Int))) then (C 38 [.p (.agg [.int .i64 (((l'.getD i'.toNat .nil).cell 0).toInt),.int .i64 (((l'.getD i'.toNat .nil).cell 1).toInt),.int .i64 (((l'.getD i'.toNat .nil).cell 2).toInt)]),.p (.agg [.int .i64 (((l'.getD ((IntKind.i64.wrap (i' + (1 : Int))).toNat) .nil).cell 0).toInt),.int .i64 (((l'.getD ((IntKind.i64.wrap (i' + (1 : Int))).toNat) .nil).cell 1).toInt),.int .i64 (((l'.getD ((IntKind.i64.wrap (i' + (1 : Int))).toNat) .nil).cell 2).toInt)])] []).bind fun r1 =>
    bif ((r1.1.headD .undef).pv.toInt != (-1 : Int)) then
      some ([.p (.bool false)],[])
    else
      L tab C 20 [] [.lp [1,0,1,0]] (S20_1010 l' (IntKind.i64.wrap (i' + (1 : Int)))) else none else none
  else
    bif (leI ((l'.length : Nat) : Int) (4096 : Int)) then
      (C 32 [.p (.list true [.int .i64,.int .i64,.int .i64] l')] []).bind fun r2 =>
      some ([.p (.bool ((r2.1.headD .undef).pv.toBool))],[])
    else
      some ([.p (.bool false)],[]) := by kernel_rfl
theorem e21 (C : CallF) (a_0 : Int) (a_1 : Int) (a_2 : Int) (b_0 : Int) (b_1 : Int) (b_2 : Int) : acallI tab C 21 [.p (.agg [.int .i64 a_0,.int .i64 a_1,.int .i64 a_2]),.p (.agg [.int .i64 b_0,.int .i64 b_1,.int .i64 b_2])] [] =
  (C 40 [.p (.agg [.int .i64 a_0,.int .i64 a_1,.int .i64 a_2]),.p (.agg [.int .i64 b_0,.int .i64 b_1,.int .i64 b_2])] []).bind fun r1 =>
  (C 40 [.p (.agg [.int .i64 a_0,.int .i64 a_1,.int .i64 a_2]),.p (.agg [.int .i64 b_0,.int .i64 b_1,.int .i64 b_2])] []).bind fun r2 =>
  (C 39 [.p (.agg [.int .i64 (((r1.1.headD .undef).pv.cell 0).toInt),.int .i64 (((r1.1.headD .undef).pv.cell 1).toInt),.int .i64 (((r1.1.headD .undef).pv.cell 2).toInt)]),.p (.agg [.int .i64 (((r2.1.headD .undef).pv.cell 0).toInt),.int .i64 (((r2.1.headD .undef).pv.cell 1).toInt),.int .i64 (((r2.1.headD .undef).pv.cell 2).toInt)])] []).bind fun r3 =>
  some ([.p (.int .i64 ((r3.1.headD .undef).pv.toInt))],[]) := by kernel_rfl
def S23_11010 (out_o : Nat) (out_l : Nat) (t6' : List PV) (t7' : Int) (t8' : Int) (out_b : List PV) : St := ⟨.undef::.undef::.undef::(.slice 3 3 out_o out_l)::.undef::.undef::(.p (.list false [.int .i64] t6'))::(.p (.int .i64 t7'))::(.p (.int .i64 t8'))::List.replicate 10 .undef,[(3,.arr true [.int .i64,.int .i64,.int .i64] out_b)]⟩
theorem e23 (C : CallF) (l : List PV) : acallI tab C 23 [.p (.list false [.int .i64] l)] [] =
  L tab C 23 [] [.lp [1,1,0,1,0]] (S23_11010 0 0 l ((l.length : Nat) : Int) 0 []) := by kernel_rfl
theorem e23_11010 (C : CallF) (out_o : Nat) (out_l : Nat) (t6' : List PV) (t7' : Int) (t8' : Int) (out_b : List PV) : R tab C 23 [] [.lp [1,1,0,1,0]] (S23_11010 out_o out_l t6' t7' t8' out_b) =
  bif (ltI t8' t7') then
    bif ((leI (0 : Int) t8') && (ltI t8' ((t6'.length : Nat) : Int))) then (C 19 [.p (.int .i64 (((t6'.getD t8'.toNat .nil).cell 0).toInt)),.p (.int .i64 0),.p (.int .i64 0)] []).bind fun r1 =>
    bif (leN (out_l + 1) 2147483648) then L tab C 23 [] [.lp [1,1,0,1,0]] (S23_11010 0 (out_l + 1) t6' t7' (IntKind.i64.wrap (t8' + (1 : Int))) (((out_b.drop out_o).take out_l) ++ ([.agg [.int .i64 (((r1.1.headD .undef).pv.cell 0).toInt),.int .i64 (((r1.1.headD .undef).pv.cell 1).toInt),.int .i64 (((r1.1.headD .undef).pv.cell 2).toInt)]] : List PV))) else none else none
  else
    some ([.fresh true [.int .i64,.int .i64,.int .i64] ((out_b.drop out_o).take out_l)],[]) := by kernel_rfl
def S24_1010 (l' : List PV) (i' : Int) : St := ⟨(.p (.list true [.int .i64,.int .i64,.int .i64] l'))::.undef::.undef::(.p (.int .i64 i'))::List.replicate 19 .undef,[]⟩
theorem e24 (C : CallF) (l : List PV) : acallI tab C 24 [.p (.list true [.int .i64,.int .i64,.int .i64] l)] [] =
  L tab C 24 [] [.lp [1,0,1,0]] (S24_1010 l 1) := by kernel_rfl
theorem e24_1010 (C : CallF) (l' : List PV) (i' : Int) : R tab C 24 [] [.lp [1,0,1,0]] (S24_1010 l' i') =
  bif (ltI i' ((l'.length : Nat) : Int)) then
    bif ((leI (0 : Int) (IntKind.i64.wrap (i' - (1 : Int)))) && (ltI (IntKind.i64.wrap (i' - (1 : Int))) ((l'.length : Nat) : Int))) then bif ((leI (0 : Int) i') && (ltI i' ((l'.length : Nat) : Int))) then (C 35 [.p (.agg [.int .i64 (((l'.getD ((IntKind.i64.wrap (i' - (1 : Int))).toNat) .nil).cell 0).toInt),.int .i64 (((l'.getD ((IntKind.i64.wrap (i' - (1 : Int))).toNat) .nil).cell 1).toInt),.int .i64 (((l'.getD ((IntKind.i64.wrap (i' - (1 : Int))).toNat) .nil).cell 2).toInt)]),.p (.agg [.int .i64 (((l'.getD i'.toNat .nil).cell 0).toInt),.int .i64 (((l'.getD i'.toNat .nil).cell 1).toInt),.int .i64 (((l'.getD i'.toNat .nil).cell 2).toInt)])] []).bind fun r1 =>
    bif (geI ((r1.1.headD .undef).pv.toInt) (0 : Int)) then
      some ([.p (.bool false)],[])
    else
      L tab C 24 [] [.lp [1,0,1,0]] (S24_1010 l' (IntKind.i64.wrap (i' + (1 : Int)))) else none else none
  else
    (C 31 [.p (.list true [.int .i64,.int .i64,.int .i64] l')] []).bind fun r2 =>
    some ([.p (.bool ((r2.1.headD .undef).pv.toBool))],[]) := by kernel_rfl
def S25_11111100 (newslice_o : Nat) (newslice_l : Nat) (n_' : Int) (newslice_b : List PV) : St := ⟨.undef::.undef::.undef::.undef::.undef::.undef::.undef::(.slice 7 1 newslice_o newslice_l)::(.p (.int .i64 n_'))::List.replicate 39 .undef,[(7,.arr false [.int .i64] newslice_b)]⟩
theorem e25 (C : CallF) (x : List PV) (count : Int) : acallI tab C 25 [.p (.list false [.int .i64] x),.p (.int .i64 count)] [] =
  bif (ltI count (0 : Int)) then
    none
  else
    (C 41 [.p (.int .u64 (IntKind.u64.wrap ((x.length : Nat) : Int))),.p (.int .u64 (IntKind.u64.wrap count))] []).bind fun r1 =>
    bif (gtI ((r1.1.headD .undef).pv.toInt) (0 : Int)) then
      none
    else
      bif (gtI ((r1.1.tail.headD .undef).pv.toInt) (9223372036854775807 : Int)) then
        none
      else
        bif ((leI (0 : Int) (IntKind.i64.wrap ((r1.1.tail.headD .undef).pv.toInt))) && ((leI (IntKind.i64.wrap ((r1.1.tail.headD .undef).pv.toInt)) (IntKind.i64.wrap ((r1.1.tail.headD .undef).pv.toInt))) && (leI (IntKind.i64.wrap ((r1.1.tail.headD .undef).pv.toInt)) (2147483648 : Int)))) then L tab C 25 [] [.lp [1,1,1,1,1,1,0,0]] (S25_11111100 0 ((IntKind.i64.wrap ((r1.1.tail.headD .undef).pv.toInt)).toNat) (((Nat.min x.length ((IntKind.i64.wrap ((r1.1.tail.headD .undef).pv.toInt)).toNat)) : Nat) : Int) (patch (List.replicate ((IntKind.i64.wrap ((r1.1.tail.headD .undef).pv.toInt)).toNat) (PV.int .i64 0)) 0 (x.take (Nat.min x.length ((IntKind.i64.wrap ((r1.1.tail.headD .undef).pv.toInt)).toNat))))) else none := by kernel_rfl
theorem e25_11111100 (C : CallF) (newslice_o : Nat) (newslice_l : Nat) (n_' : Int) (newslice_b : List PV) : R tab C 25 [] [.lp [1,1,1,1,1,1,0,0]] (S25_11111100 newslice_o newslice_l n_' newslice_b) =
  bif (ltI n_' (newslice_l : Int)) then
    bif ((leI (0 : Int) n_') && ((leI n_' (newslice_l : Int)) && ((leI (newslice_l : Int) (newslice_l : Int)) && (leI (newslice_l : Int) (newslice_l : Int))))) then bif ((leI (0 : Int) n_') && ((leI n_' (newslice_l : Int)) && (leI (newslice_l : Int) (newslice_l : Int)))) then L tab C 25 [] [.lp [1,1,1,1,1,1,0,0]] (S25_11111100 newslice_o newslice_l (IntKind.i64.wrap (n_' + (((Nat.min ((n_' - (0 : Int)).toNat) (((newslice_l : Int) - n_').toNat)) : Nat) : Int))) (patch newslice_b (newslice_o + n_'.toNat) (((newslice_b.drop (newslice_o + 0)).take ((n_' - (0 : Int)).toNat)).take (Nat.min ((n_' - (0 : Int)).toNat) (((newslice_l : Int) - n_').toNat))))) else none else none
  else
    some ([.fresh false [.int .i64] ((newslice_b.drop newslice_o).take newslice_l)],[]) := by kernel_rfl
theorem e26 (C : CallF) (s : List PV) : acallI tab C 26 [.p (.list false [.int .i64] s)] [] =
  bif (Nat.blt 0 s.length) then bif (leN (0 + s.length) 2147483648) then some ([.fresh false [.int .i64] (((([] : List PV) ++ s).drop 0).take (0 + s.length))],[]) else none else none := by kernel_rfl
def S27_11010 (t0_r0 : List PV) (best' : Int) (t5' : List PV) (t6' : Int) (t7' : Int) : St := ⟨(.p (.ref [.list false [.int .i64] t0_r0]))::.undef::(.p (.int .i64 best'))::.undef::.undef::(.p (.list false [.int .i64] t5'))::(.p (.int .i64 t6'))::(.p (.int .i64 t7'))::List.replicate 13 .undef,[]⟩
theorem e27 (C : CallF) (c0 : List PV) : acallI tab C 27 [.p (.ref [.list false [.int .i64] c0])] [] =
  L tab C 27 [] [.lp [1,1,0,1,0]] (S27_11010 c0 0 c0 ((c0.length : Nat) : Int) 0) := by kernel_rfl
theorem e27_11010 (C : CallF) (t0_r0 : List PV) (best' : Int) (t5' : List PV) (t6' : Int) (t7' : Int) : R tab C 27 [] [.lp [1,1,0,1,0]] (S27_11010 t0_r0 best' t5' t6' t7') =
  bif (ltI t7' t6') then
    bif ((leI (0 : Int) t7') && (ltI t7' ((t5'.length : Nat) : Int))) then bif ((leI (0 : Int) best') && (ltI best' ((t0_r0.length : Nat) : Int))) then bif (gtI (((t5'.getD t7'.toNat .nil).cell 0).toInt) (((t0_r0.getD best'.toNat .nil).cell 0).toInt)) then
      L tab C 27 [] [.lp [1,1,0,1,0]] (S27_11010 t0_r0 t7' t5' t6' (IntKind.i64.wrap (t7' + (1 : Int))))
    else
      L tab C 27 [] [.lp [1,1,0,1,0]] (S27_11010 t0_r0 best' t5' t6' (IntKind.i64.wrap (t7' + (1 : Int)))) else none else none
  else
    some ([.p (.int .i64 best')],[]) := by kernel_rfl
theorem e28 (C : CallF) (a_0 : Int) (a_1 : Int) (a_2 : Int) (b_0 : Int) (b_1 : Int) (b_2 : Int) : acallI tab C 28 [.p (.agg [.int .i64 a_0,.int .i64 a_1,.int .i64 a_2]),.p (.agg [.int .i64 b_0,.int .i64 b_1,.int .i64 b_2])] [] =
  (C 42 [.p (.agg [.int .i64 a_0,.int .i64 a_1,.int .i64 a_2]),.p (.agg [.int .i64 b_0,.int .i64 b_1,.int .i64 b_2])] []).bind fun r1 =>
  some ([.p (.int .i64 ((r1.1.headD .undef).pv.toInt))],[]) := by kernel_rfl
def S29_1010 (l' : List PV) (i' : Int) (p_b0 : Int) (p_b1 : Int) (p_b2 : Int) : St := ⟨(.p (.list true [.int .i64,.int .i64,.int .i64] l'))::.undef::.undef::(.ptr 3 0 0)::.undef::(.p (.int .i64 i'))::List.replicate 12 .undef,[(3,.box [.p (.int .i64 p_b0),.p (.int .i64 p_b1),.p (.int .i64 p_b2)])]⟩
theorem e29 (C : CallF) (l : List PV) (p_0 : Int) (p_1 : Int) (p_2 : Int) : acallI tab C 29 [.p (.list true [.int .i64,.int .i64,.int .i64] l),.p (.agg [.int .i64 p_0,.int .i64 p_1,.int .i64 p_2])] [] =
  L tab C 29 [] [.lp [1,0,1,0]] (S29_1010 l 0 p_0 p_1 p_2) := by kernel_rfl
theorem e29_1010 (C : CallF) (l' : List PV) (i' : Int) (p_b0 : Int) (p_b1 : Int) (p_b2 : Int) : R tab C 29 [] [.lp [1,0,1,0]] (S29_1010 l' i' p_b0 p_b1 p_b2) =
  bif (ltI i' ((l'.length : Nat) : Int)) then
    bif ((leI (0 : Int) i') && (ltI i' ((l'.length : Nat) : Int))) then bif ((((l'.getD i'.toNat .nil).cell 0).toInt == p_b0) && ((((l'.getD i'.toNat .nil).cell 1).toInt == p_b1) && ((((l'.getD i'.toNat .nil).cell 2).toInt == p_b2) && true))) then
      some ([.p (.bool true)],[])
    else
      L tab C 29 [] [.lp [1,0,1,0]] (S29_1010 l' (IntKind.i64.wrap (i' + (1 : Int))) p_b0 p_b1 p_b2) else none
  else
    some ([.p (.bool false)],[]) := by kernel_rfl
def S30_11010 (l' : List PV) (n_' : Int) (i' : Int) (p_b0 : Int) (p_b1 : Int) (p_b2 : Int) : St := ⟨.undef::(.p (.list true [.int .i64,.int .i64,.int .i64] l'))::(.ptr 2 0 0)::.undef::.undef::(.p (.int .i64 n_'))::(.p (.int .i64 i'))::List.replicate 26 .undef,[(2,.box [.p (.int .i64 p_b0),.p (.int .i64 p_b1),.p (.int .i64 p_b2)])]⟩
theorem e30 (C : CallF) (p_0 : Int) (p_1 : Int) (p_2 : Int) (l : List PV) : acallI tab C 30 [.p (.agg [.int .i64 p_0,.int .i64 p_1,.int .i64 p_2]),.p (.list true [.int .i64,.int .i64,.int .i64] l)] [] =
  bif (ltI (0 : Int) ((l.length : Nat) : Int)) then (C 21 [.p (.agg [.int .i64 p_0,.int .i64 p_1,.int .i64 p_2]),.p (.agg [.int .i64 (((l.getD 0 .nil).cell 0).toInt),.int .i64 (((l.getD 0 .nil).cell 1).toInt),.int .i64 (((l.getD 0 .nil).cell 2).toInt)])] []).bind fun r1 =>
  L tab C 30 [] [.lp [1,1,0,1,0]] (S30_11010 l ((r1.1.headD .undef).pv.toInt) 1 p_0 p_1 p_2) else none := by kernel_rfl
theorem e30_11010 (C : CallF) (l' : List PV) (n_' : Int) (i' : Int) (p_b0 : Int) (p_b1 : Int) (p_b2 : Int) : R tab C 30 [] [.lp [1,1,0,1,0]] (S30_11010 l' n_' i' p_b0 p_b1 p_b2) =
  bif (ltI i' ((l'.length : Nat) : Int)) then
    bif ((leI (0 : Int) i') && (ltI i' ((l'.length : Nat) : Int))) then (C 21 [.p (.agg [.int .i64 p_b0,.int .i64 p_b1,.int .i64 p_b2]),.p (.agg [.int .i64 (((l'.getD i'.toNat .nil).cell 0).toInt),.int .i64 (((l'.getD i'.toNat .nil).cell 1).toInt),.int .i64 (((l'.getD i'.toNat .nil).cell 2).toInt)])] []).bind fun r1 =>
    bif (ltI ((r1.1.headD .undef).pv.toInt) n_') then
      bif ((leI (0 : Int) i') && (ltI i' ((l'.length : Nat) : Int))) then (C 21 [.p (.agg [.int .i64 p_b0,.int .i64 p_b1,.int .i64 p_b2]),.p (.agg [.int .i64 (((l'.getD i'.toNat .nil).cell 0).toInt),.int .i64 (((l'.getD i'.toNat .nil).cell 1).toInt),.int .i64 (((l'.getD i'.toNat .nil).cell 2).toInt)])] []).bind fun r2 =>
      L tab C 30 [] [.lp [1,1,0,1,0]] (S30_11010 l' ((r2.1.headD .undef).pv.toInt) (IntKind.i64.wrap (i' + (1 : Int))) p_b0 p_b1 p_b2) else none
    else
      L tab C 30 [] [.lp [1,1,0,1,0]] (S30_11010 l' n_' (IntKind.i64.wrap (i' + (1 : Int))) p_b0 p_b1 p_b2) else none
  else
    some ([.p (.int .i64 n_')],[]) := by kernel_rfl
theorem e31 (C : CallF) (l : List PV) : acallI tab C 31 [.p (.list true [.int .i64,.int .i64,.int .i64] l)] [] =
  bif (leI ((l.length : Nat) : Int) (4096 : Int)) then
    (C 43 [.p (.list true [.int .i64,.int .i64,.int .i64] l),.p (.fn 44 [])] []).bind fun r1 =>
    some ([.p (.bool (!(r1.1.headD .undef).pv.toBool))],[])
  else
    some ([.p (.bool false)],[]) := by kernel_rfl
def S32_1010 (l' : List PV) (i' : Int) : St := ⟨(.p (.list true [.int .i64,.int .i64,.int .i64] l'))::.undef::.undef::(.p (.int .i64 i'))::List.replicate 12 .undef,[]⟩
theorem e32 (C : CallF) (l : List PV) : acallI tab C 32 [.p (.list true [.int .i64,.int .i64,.int .i64] l)] [] =
  L tab C 32 [] [.lp [1,0,1,0]] (S32_1010 l 0) := by kernel_rfl
theorem e32_1010 (C : CallF) (l' : List PV) (i' : Int) : R tab C 32 [] [.lp [1,0,1,0]] (S32_1010 l' i') =
  bif (ltI i' ((l'.length : Nat) : Int)) then
    bif ((leI (0 : Int) i') && (ltI i' ((l'.length : Nat) : Int))) then (C 46 [.p (.agg [.int .i64 (((l'.getD i'.toNat .nil).cell 0).toInt),.int .i64 (((l'.getD i'.toNat .nil).cell 1).toInt),.int .i64 (((l'.getD i'.toNat .nil).cell 2).toInt)])] []).bind fun r1 =>
    bif (!(r1.1.headD .undef).pv.toBool) then
      some ([.p (.bool false)],[])
    else
      L tab C 32 [] [.lp [1,0,1,0]] (S32_1010 l' (IntKind.i64.wrap (i' + (1 : Int)))) else none
  else
    some ([.p (.bool true)],[]) := by kernel_rfl
def S33_111010 (t12' : List PV) (t13' : Int) (t14' : Int) (b3_b0 : Int) (b11_b : List (PV × PV)) : St := ⟨.undef::.undef::(.ptr 2 0 0)::(.ptr 3 0 0)::(.ptr 4 0 0)::.undef::.undef::.undef::.undef::.undef::.undef::.undef::(.p (.list true [.int .i64,.slice true [.int .i64,.int .i64,.int .i64],.int .i64,.int .i64,.int .i64,.int .i64] t12'))::(.p (.int .i64 t13'))::(.p (.int .i64 t14'))::List.replicate 18 .undef,[(2,.box [.p (.nil)]),(3,.box [.p (.int .i64 b3_b0)]),(11,.mp 72 b11_b),(4,.box [.mref 11])]⟩
def S33_111010_1100110 (t12' : List PV) (t13' : Int) (t14' : Int) (t19 : PV) (b3_b0 : Int) (b11_b : List (PV × PV)) : St := ⟨.undef::.undef::(.ptr 2 0 0)::(.ptr 3 0 0)::(.ptr 4 0 0)::.undef::.undef::.undef::.undef::.undef::.undef::.undef::(.p (.list true [.int .i64,.slice true [.int .i64,.int .i64,.int .i64],.int .i64,.int .i64,.int .i64,.int .i64] t12'))::(.p (.int .i64 t13'))::(.p (.int .i64 t14'))::.undef::.undef::.undef::.undef::(.p t19)::List.replicate 13 .undef,[(2,.box [.p (.nil)]),(3,.box [.p (.int .i64 b3_b0)]),(11,.mp 72 b11_b),(4,.box [.mref 11])]⟩
theorem e33 (C : CallF) (f : List PV) : acallI tab C 33 [.p (.list true [.int .i64,.slice true [.int .i64,.int .i64,.int .i64],.int .i64,.int .i64,.int .i64,.int .i64] f)] [] =
  (C 47 [.p (.list true [.int .i64,.slice true [.int .i64,.int .i64,.int .i64],.int .i64,.int .i64,.int .i64,.int .i64] f)] []).bind fun r1 =>
  bif (!(r1.1.headD .undef).pv.toBool) then
    some ([.fresh true [.int .i64,.int .i64,.int .i64] [],.p (.int .i64 2)],[])
  else
    L tab C 33 [] [.lp [1,1,1,0,1,0]] (S33_111010 f ((f.length : Nat) : Int) 0 0 ([] : List (PV × PV))) := by kernel_rfl
theorem e33_111010 (C : CallF) (t12' : List PV) (t13' : Int) (t14' : Int) (b3_b0 : Int) (b11_b : List (PV × PV)) : R tab C 33 [] [.lp [1,1,1,0,1,0]] (S33_111010 t12' t13' t14' b3_b0 b11_b) =
  bif (ltI t14' t13') then
    bif ((leI (0 : Int) t14') && (ltI t14' ((t12'.length : Nat) : Int))) then (C 48 [.p (.agg [.int .i64 (((t12'.getD t14'.toNat .nil).cell 0).toInt),.list true [.int .i64,.int .i64,.int .i64] (((t12'.getD t14'.toNat .nil).cell 1).toList),.int .i64 (((t12'.getD t14'.toNat .nil).cell 2).toInt),.int .i64 (((t12'.getD t14'.toNat .nil).cell 3).toInt),.int .i64 (((t12'.getD t14'.toNat .nil).cell 4).toInt),.int .i64 (((t12'.getD t14'.toNat .nil).cell 5).toInt)])] []).bind fun r1 =>
    bif (PV.isFn 96 [(true,[.slice true [.int .i64,.int .i64,.int .i64]])] ((r1.1.headD .undef).pv)) then
      (C 96 [.yld,.p (.ref [.list true [.int .i64,.int .i64,.int .i64] ((((r1.1.headD .undef).pv.cap 0).rcell 0).toList)])] [.log true []]).bind fun r2 =>
      L tab C 33 [] [.lp [1,1,1,0,1,0],.rg [1,1,0,0,1,1,0] [(true,[.int .i64,.int .i64,.int .i64])] (logOf r2.2)] (S33_111010_1100110 t12' t13' t14' (.fn 96 [.ref [.list true [.int .i64,.int .i64,.int .i64] ((((r1.1.headD .undef).pv.cap 0).rcell 0).toList)]]) b3_b0 b11_b)
    else
      bif (PV.isFn 97 [(true,[.int .i64,.slice true [.int .i64,.int .i64,.int .i64],.int .i64,.int .i64,.int .i64,.int .i64])] ((r1.1.headD .undef).pv)) then
        (C 97 [.yld,.p (.ref [.int .i64 ((((r1.1.headD .undef).pv.cap 0).rcell 0).toInt),.list true [.int .i64,.int .i64,.int .i64] ((((r1.1.headD .undef).pv.cap 0).rcell 1).toList),.int .i64 ((((r1.1.headD .undef).pv.cap 0).rcell 2).toInt),.int .i64 ((((r1.1.headD .undef).pv.cap 0).rcell 3).toInt),.int .i64 ((((r1.1.headD .undef).pv.cap 0).rcell 4).toInt),.int .i64 ((((r1.1.headD .undef).pv.cap 0).rcell 5).toInt)])] [.log true []]).bind fun r3 =>
        L tab C 33 [] [.lp [1,1,1,0,1,0],.rg [1,1,0,0,1,1,0] [(true,[.int .i64,.int .i64,.int .i64])] (logOf r3.2)] (S33_111010_1100110 t12' t13' t14' (.fn 97 [.ref [.int .i64 ((((r1.1.headD .undef).pv.cap 0).rcell 0).toInt),.list true [.int .i64,.int .i64,.int .i64] ((((r1.1.headD .undef).pv.cap 0).rcell 1).toList),.int .i64 ((((r1.1.headD .undef).pv.cap 0).rcell 2).toInt),.int .i64 ((((r1.1.headD .undef).pv.cap 0).rcell 3).toInt),.int .i64 ((((r1.1.headD .undef).pv.cap 0).rcell 4).toInt),.int .i64 ((((r1.1.headD .undef).pv.cap 0).rcell 5).toInt)]]) b3_b0 b11_b)
      else
        bif (PV.isFn 99 [(true,[.int .i64,.slice true [.int .i64,.int .i64,.int .i64],.int .i64,.int .i64,.int .i64,.int .i64])] ((r1.1.headD .undef).pv)) then (C 99 [.yld,.p (.ref [.int .i64 ((((r1.1.headD .undef).pv.cap 0).rcell 0).toInt),.list true [.int .i64,.int .i64,.int .i64] ((((r1.1.headD .undef).pv.cap 0).rcell 1).toList),.int .i64 ((((r1.1.headD .undef).pv.cap 0).rcell 2).toInt),.int .i64 ((((r1.1.headD .undef).pv.cap 0).rcell 3).toInt),.int .i64 ((((r1.1.headD .undef).pv.cap 0).rcell 4).toInt),.int .i64 ((((r1.1.headD .undef).pv.cap 0).rcell 5).toInt)])] [.log true []]).bind fun r4 =>
        L tab C 33 [] [.lp [1,1,1,0,1,0],.rg [1,1,0,0,1,1,0] [(true,[.int .i64,.int .i64,.int .i64])] (logOf r4.2)] (S33_111010_1100110 t12' t13' t14' (.fn 99 [.ref [.int .i64 ((((r1.1.headD .undef).pv.cap 0).rcell 0).toInt),.list true [.int .i64,.int .i64,.int .i64] ((((r1.1.headD .undef).pv.cap 0).rcell 1).toList),.int .i64 ((((r1.1.headD .undef).pv.cap 0).rcell 2).toInt),.int .i64 ((((r1.1.headD .undef).pv.cap 0).rcell 3).toInt),.int .i64 ((((r1.1.headD .undef).pv.cap 0).rcell 4).toInt),.int .i64 ((((r1.1.headD .undef).pv.cap 0).rcell 5).toInt)]]) b3_b0 b11_b) else none else none
  else
    bif (gtI ((b11_b.length : Nat) : Int) (4096 : Int)) then
      some ([.fresh true [.int .i64,.int .i64,.int .i64] [],.p (.int .i64 7)],[])
    else
      (C 50 [.p (.mapv (b11_b.map (fun x => x.1)) (b11_b.map (fun x => x.2)))] []).bind fun r5 =>
      (C 49 [.p (.fn 77 [.ref [(((r5.1.headD .undef).pv.cap 0).rcell 0)]]),.p (.fn 35 [])] []).bind fun r6 =>
      some ([.fresh true [.int .i64,.int .i64,.int .i64] ((((r6.1.headD .undef).freshList).drop 0).take ((r6.1.headD .undef).freshList.length)),.p (.int .i64 0)],[]) := by kernel_rfl
theorem e33_111010_1100110_nil (C : CallF) (t12' : List PV) (t13' : Int) (t14' : Int) (t19 : PV) (b3_b0 : Int) (b11_b : List (PV × PV)) : L tab C 33 [] [.lp [1,1,1,0,1,0],.rg [1,1,0,0,1,1,0] [(true,[.int .i64,.int .i64,.int .i64])] []] (S33_111010_1100110 t12' t13' t14' t19 b3_b0 b11_b) =
  L tab C 33 [] [.lp [1,1,1,0,1,0]] (S33_111010 t12' t13' (IntKind.i64.wrap (t14' + (1 : Int))) b3_b0 b11_b) := by kernel_rfl
theorem e33_111010_1100110_cons (C : CallF) (t12' : List PV) (t13' : Int) (t14' : Int) (t19 : PV) (b3_b0 : Int) (b11_b : List (PV × PV)) (y0_0 : Int) (y0_1 : Int) (y0_2 : Int) (ys : List PV) : L tab C 33 [] [.lp [1,1,1,0,1,0],.rg [1,1,0,0,1,1,0] [(true,[.int .i64,.int .i64,.int .i64])] (.agg [.agg [.int .i64 y0_0,.int .i64 y0_1,.int .i64 y0_2]]::ys)] (S33_111010_1100110 t12' t13' t14' t19 b3_b0 b11_b) =
  (C 45 [.p (.agg [.int .i64 y0_0,.int .i64 y0_1,.int .i64 y0_2])] []).bind fun r1 =>
  bif (!(r1.1.headD .undef).pv.toBool) then
    some ([.fresh true [.int .i64,.int .i64,.int .i64] [],.p (.int .i64 3)],[])
  else
    bif (mapFind tab 31 [.int .i64 y0_0,.int .i64 y0_1,.int .i64 y0_2] b11_b).isSome then L tab C 33 [] [.lp [1,1,1,0,1,0],.rg [1,1,0,0,1,1,0] [(true,[.int .i64,.int .i64,.int .i64])] ys] (S33_111010_1100110 t12' t13' t14' t19 b3_b0 (mapPut b11_b (PV.agg [.int .i64 y0_0,.int .i64 y0_1,.int .i64 y0_2]) (PV.bool true) ((mapFind tab 31 [.int .i64 y0_0,.int .i64 y0_1,.int .i64 y0_2] b11_b).getD none))) else none := by kernel_rfl
theorem e35 (C : CallF) (a_0 : Int) (a_1 : Int) (a_2 : Int) (b_0 : Int) (b_1 : Int) (b_2 : Int) : acallI tab C 35 [.p (.agg [.int .i64 a_0,.int .i64 a_1,.int .i64 a_2]),.p (.agg [.int .i64 b_0,.int .i64 b_1,.int .i64 b_2])] [] =
  (C 53 [.p (.agg [.int .i64 a_0,.int .i64 a_1,.int .i64 a_2])] []).bind fun r1 =>
  (C 53 [.p (.agg [.int .i64 b_0,.int .i64 b_1,.int .i64 b_2])] []).bind fun r2 =>
  (C 54 [.p (.list false [.int .i64] [.int .i64 (((r1.1.headD .undef).pv.cell 0).toInt),.int .i64 (((r1.1.headD .undef).pv.cell 1).toInt),.int .i64 (((r1.1.headD .undef).pv.cell 2).toInt)]),.p (.list false [.int .i64] [.int .i64 (((r2.1.headD .undef).pv.cell 0).toInt),.int .i64 (((r2.1.headD .undef).pv.cell 1).toInt),.int .i64 (((r2.1.headD .undef).pv.cell 2).toInt)])] []).bind fun r3 =>
  some ([.p (.int .i64 ((r3.1.headD .undef).pv.toInt))],[]) := by kernel_rfl
def S36_1010 (f' : List PV) (i' : Int) : St := ⟨(.p (.list true [.int .i64,.slice true [.int .i64,.int .i64,.int .i64],.int .i64,.int .i64,.int .i64,.int .i64] f'))::.undef::.undef::(.p (.int .i64 i'))::List.replicate 15 .undef,[]⟩
theorem e36 (C : CallF) (f : List PV) : acallI tab C 36 [.p (.list true [.int .i64,.slice true [.int .i64,.int .i64,.int .i64],.int .i64,.int .i64,.int .i64,.int .i64] f)] [] =
  L tab C 36 [] [.lp [1,0,1,0]] (S36_1010 f 0) := by kernel_rfl
theorem e36_1010 (C : CallF) (f' : List PV) (i' : Int) : R tab C 36 [] [.lp [1,0,1,0]] (S36_1010 f' i') =
  bif (ltI i' ((f'.length : Nat) : Int)) then
    bif ((leI (0 : Int) i') && (ltI i' ((f'.length : Nat) : Int))) then (C 55 [.p (.agg [.int .i64 (((f'.getD i'.toNat .nil).cell 0).toInt),.list true [.int .i64,.int .i64,.int .i64] (((f'.getD i'.toNat .nil).cell 1).toList),.int .i64 (((f'.getD i'.toNat .nil).cell 2).toInt),.int .i64 (((f'.getD i'.toNat .nil).cell 3).toInt),.int .i64 (((f'.getD i'.toNat .nil).cell 4).toInt),.int .i64 (((f'.getD i'.toNat .nil).cell 5).toInt)])] []).bind fun r1 =>
    bif (!(r1.1.headD .undef).pv.toBool) then
      some ([.p (.bool false)],[])
    else
      L tab C 36 [] [.lp [1,0,1,0]] (S36_1010 f' (IntKind.i64.wrap (i' + (1 : Int)))) else none
  else
    some ([.p (.bool (leI ((f'.length : Nat) : Int) (50 : Int)))],[]) := by kernel_rfl
def S37_11010 (f' : List PV) (all_o : Nat) (all_l : Nat) (i' : Int) (all_b : List PV) : St := ⟨(.p (.list true [.int .i64,.slice true [.int .i64,.int .i64,.int .i64],.int .i64,.int .i64,.int .i64,.int .i64] f'))::.undef::.undef::.undef::(.slice 4 3 all_o all_l)::(.p (.int .i64 i'))::List.replicate 24 .undef,[(4,.arr true [.int .i64,.int .i64,.int .i64] all_b)]⟩
theorem e37 (C : CallF) (f : List PV) : acallI tab C 37 [.p (.list true [.int .i64,.slice true [.int .i64,.int .i64,.int .i64],.int .i64,.int .i64,.int .i64,.int .i64] f)] [] =
  L tab C 37 [] [.lp [1,1,0,1,0]] (S37_11010 f 0 0 0 []) := by kernel_rfl
theorem e37_11010 (C : CallF) (f' : List PV) (all_o : Nat) (all_l : Nat) (i' : Int) (all_b : List PV) : R tab C 37 [] [.lp [1,1,0,1,0]] (S37_11010 f' all_o all_l i' all_b) =
  bif (ltI i' ((f'.length : Nat) : Int)) then
    bif ((leI (0 : Int) i') && (ltI i' ((f'.length : Nat) : Int))) then (C 56 [.p (.agg [.int .i64 (((f'.getD i'.toNat .nil).cell 0).toInt),.list true [.int .i64,.int .i64,.int .i64] (((f'.getD i'.toNat .nil).cell 1).toList),.int .i64 (((f'.getD i'.toNat .nil).cell 2).toInt),.int .i64 (((f'.getD i'.toNat .nil).cell 3).toInt),.int .i64 (((f'.getD i'.toNat .nil).cell 4).toInt),.int .i64 (((f'.getD i'.toNat .nil).cell 5).toInt)])] []).bind fun r1 =>
    bif (leN (all_l + ((r1.1.headD .undef).pv.toList).length) 2147483648) then L tab C 37 [] [.lp [1,1,0,1,0]] (S37_11010 f' 0 (all_l + ((r1.1.headD .undef).pv.toList).length) (IntKind.i64.wrap (i' + (1 : Int))) (((all_b.drop all_o).take all_l) ++ ((r1.1.headD .undef).pv.toList))) else none else none
  else
    (C 32 [.p (.list true [.int .i64,.int .i64,.int .i64] ((all_b.drop all_o).take all_l))] []).bind fun r2 =>
    bif (!(r2.1.headD .undef).pv.toBool) then
      some ([.fresh true [.int .i64,.int .i64,.int .i64] [],.p (.int .i64 3)],[])
    else
      (C 57 [.p (.list true [.int .i64,.int .i64,.int .i64] ((all_b.drop all_o).take all_l))] []).bind fun r3 =>
      bif (gtI ((((r3.1.headD .undef).pv.toList).length : Nat) : Int) (4096 : Int)) then
        some ([.fresh true [.int .i64,.int .i64,.int .i64] [],.p (.int .i64 7)],[])
      else
        bif (leN (((r3.1.headD .undef).pv.toList).length) 2147483648) then some ([.fresh true [.int .i64,.int .i64,.int .i64] ((((r3.1.headD .undef).pv.toList).drop 0).take (((r3.1.headD .undef).pv.toList).length)),.p (.int .i64 0)],[]) else none := by kernel_rfl
def S38_1010 (i' : Int) (a_b0 : Int) (a_b1 : Int) (a_b2 : Int) (b_b0 : Int) (b_b1 : Int) (b_b2 : Int) : St := ⟨.undef::.undef::(.ptr 2 0 0)::(.ptr 3 0 0)::.undef::(.p (.int .i64 i'))::List.replicate 18 .undef,[(2,.box [.p (.int .i64 a_b0),.p (.int .i64 a_b1),.p (.int .i64 a_b2)]),(3,.box [.p (.int .i64 b_b0),.p (.int .i64 b_b1),.p (.int .i64 b_b2)])]⟩
theorem e38 (C : CallF) (a_0 : Int) (a_1 : Int) (a_2 : Int) (b_0 : Int) (b_1 : Int) (b_2 : Int) : acallI tab C 38 [.p (.agg [.int .i64 a_0,.int .i64 a_1,.int .i64 a_2]),.p (.agg [.int .i64 b_0,.int .i64 b_1,.int .i64 b_2])] [] =
  L tab C 38 [] [.lp [1,0,1,0]] (S38_1010 0 a_0 a_1 a_2 b_0 b_1 b_2) := by kernel_rfl
theorem e38_1010 (C : CallF) (i' : Int) (a_b0 : Int) (a_b1 : Int) (a_b2 : Int) (b_b0 : Int) (b_b1 : Int) (b_b2 : Int) : R tab C 38 [] [.lp [1,0,1,0]] (S38_1010 i' a_b0 a_b1 a_b2 b_b0 b_b1 b_b2) =
  bif (ltI i' (3 : Int)) then
    (C 58 [.p (.agg [.int .i64 a_b0,.int .i64 a_b1,.int .i64 a_b2]),.p (.int .i64 i')] []).bind fun r1 =>
    (C 58 [.p (.agg [.int .i64 b_b0,.int .i64 b_b1,.int .i64 b_b2]),.p (.int .i64 i')] []).bind fun r2 =>
    bif (ltI ((r1.1.headD .undef).pv.toInt) ((r2.1.headD .undef).pv.toInt)) then
      some ([.p (.int .i64 (-1))],[])
    else
      (C 58 [.p (.agg [.int .i64 a_b0,.int .i64 a_b1,.int .i64 a_b2]),.p (.int .i64 i')] []).bind fun r3 =>
      (C 58 [.p (.agg [.int .i64 b_b0,.int .i64 b_b1,.int .i64 b_b2]),.p (.int .i64 i')] []).bind fun r4 =>
      bif (gtI ((r3.1.headD .undef).pv.toInt) ((r4.1.headD .undef).pv.toInt)) then
        some ([.p (.int .i64 1)],[])
      else
        L tab C 38 [] [.lp [1,0,1,0]] (S38_1010 (IntKind.i64.wrap (i' + (1 : Int))) a_b0 a_b1 a_b2 b_b0 b_b1 b_b2)
  else
    some ([.p (.int .i64 0)],[]) := by kernel_rfl
def S39_11010 (sum' : Int) (i' : Int) (a_b0 : Int) (a_b1 : Int) (a_b2 : Int) (b_b0 : Int) (b_b1 : Int) (b_b2 : Int) : St := ⟨.undef::.undef::(.ptr 2 0 0)::(.ptr 3 0 0)::.undef::(.p (.int .i64 sum'))::(.p (.int .i64 i'))::List.replicate 14 .undef,[(2,.box [.p (.int .i64 a_b0),.p (.int .i64 a_b1),.p (.int .i64 a_b2)]),(3,.box [.p (.int .i64 b_b0),.p (.int .i64 b_b1),.p (.int .i64 b_b2)])]⟩
theorem e39 (C : CallF) (a_0 : Int) (a_1 : Int) (a_2 : Int) (b_0 : Int) (b_1 : Int) (b_2 : Int) : acallI tab C 39 [.p (.agg [.int .i64 a_0,.int .i64 a_1,.int .i64 a_2]),.p (.agg [.int .i64 b_0,.int .i64 b_1,.int .i64 b_2])] [] =
  L tab C 39 [] [.lp [1,1,0,1,0]] (S39_11010 0 0 a_0 a_1 a_2 b_0 b_1 b_2) := by kernel_rfl
theorem e39_11010 (C : CallF) (sum' : Int) (i' : Int) (a_b0 : Int) (a_b1 : Int) (a_b2 : Int) (b_b0 : Int) (b_b1 : Int) (b_b2 : Int) : R tab C 39 [] [.lp [1,1,0,1,0]] (S39_11010 sum' i' a_b0 a_b1 a_b2 b_b0 b_b1 b_b2) =
  bif (ltI i' (3 : Int)) then
    (C 58 [.p (.agg [.int .i64 a_b0,.int .i64 a_b1,.int .i64 a_b2]),.p (.int .i64 i')] []).bind fun r1 =>
    (C 58 [.p (.agg [.int .i64 b_b0,.int .i64 b_b1,.int .i64 b_b2]),.p (.int .i64 i')] []).bind fun r2 =>
    L tab C 39 [] [.lp [1,1,0,1,0]] (S39_11010 (IntKind.i64.wrap (sum' + (IntKind.i64.wrap ((r1.1.headD .undef).pv.toInt * (r2.1.headD .undef).pv.toInt)))) (IntKind.i64.wrap (i' + (1 : Int))) a_b0 a_b1 a_b2 b_b0 b_b1 b_b2)
  else
    some ([.p (.int .i64 sum')],[]) := by kernel_rfl
theorem e40 (C : CallF) (a_0 : Int) (a_1 : Int) (a_2 : Int) (b_0 : Int) (b_1 : Int) (b_2 : Int) : acallI tab C 40 [.p (.agg [.int .i64 a_0,.int .i64 a_1,.int .i64 a_2]),.p (.agg [.int .i64 b_0,.int .i64 b_1,.int .i64 b_2])] [] =
  (C 60 [.p (.agg [.int .i64 b_0,.int .i64 b_1,.int .i64 b_2])] []).bind fun r1 =>
  (C 59 [.p (.agg [.int .i64 a_0,.int .i64 a_1,.int .i64 a_2]),.p (.agg [.int .i64 (((r1.1.headD .undef).pv.cell 0).toInt),.int .i64 (((r1.1.headD .undef).pv.cell 1).toInt),.int .i64 (((r1.1.headD .undef).pv.cell 2).toInt)])] []).bind fun r2 =>
  some ([.p (.agg [.int .i64 (((r2.1.headD .undef).pv.cell 0).toInt),.int .i64 (((r2.1.headD .undef).pv.cell 1).toInt),.int .i64 (((r2.1.headD .undef).pv.cell 2).toInt)])],[]) := by kernel_rfl
theorem e41 (C : CallF) (x : Int) (y : Int) : acallI tab C 41 [.p (.int .u64 x),.p (.int .u64 y)] [] =
  (C 62 [.p (.int .u64 x),.p (.int .u64 y)] []).bind fun r1 =>
  some ([.p (.int .u64 ((r1.1.headD .undef).pv.toInt)),.p (.int .u64 ((r1.1.tail.headD .undef).pv.toInt))],[]) := by kernel_rfl
theorem e42 (C : CallF) (a_0 : Int) (a_1 : Int) (a_2 : Int) (b_0 : Int) (b_1 : Int) (b_2 : Int) : acallI tab C 42 [.p (.agg [.int .i64 a_0,.int .i64 a_1,.int .i64 a_2]),.p (.agg [.int .i64 b_0,.int .i64 b_1,.int .i64 b_2])] [] =
  (C 63 [.p (.agg [.int .i64 a_0,.int .i64 a_1,.int .i64 a_2])] []).bind fun r1 =>
  bif (!(r1.1.headD .undef).pv.toBool) then
    some ([.p (.int .i64 0),.p (.int .i64 2)],[])
  else
    (C 63 [.p (.agg [.int .i64 b_0,.int .i64 b_1,.int .i64 b_2])] []).bind fun r2 =>
    bif (!(r2.1.headD .undef).pv.toBool) then
      some ([.p (.int .i64 0),.p (.int .i64 2)],[])
    else
      (C 64 [.p (.agg [.int .i64 a_0,.int .i64 a_1,.int .i64 a_2]),.p (.agg [.int .i64 b_0,.int .i64 b_1,.int .i64 b_2]),.p (.fn 65 [])] []).bind fun r3 =>
      (C 66 [.p (.agg [.int .i64 (((r3.1.headD .undef).pv.cell 0).toInt),.int .i64 (((r3.1.headD .undef).pv.cell 1).toInt),.int .i64 (((r3.1.headD .undef).pv.cell 2).toInt)]),.p (.agg [.int .i64 (((r3.1.headD .undef).pv.cell 0).toInt),.int .i64 (((r3.1.headD .undef).pv.cell 1).toInt),.int .i64 (((r3.1.headD .undef).pv.cell 2).toInt)])] []).bind fun r4 =>
      some ([.p (.int .i64 ((r4.1.headD .undef).pv.toInt)),.p (.int .i64 0)],[]) := by kernel_rfl
theorem e43p (C : CallF) (s : List PV) : acallI tab C 43 [.p (.list true [.int .i64,.int .i64,.int .i64] s),.p (.fn 44 [])] [] =
  (C 67 [.p (.list true [.int .i64,.int .i64,.int .i64] s),.p (.fn 44 [])] []).bind fun r1 =>
  some ([.p (.bool (geI ((r1.1.headD .undef).pv.toInt) (0 : Int)))],[]) := by kernel_rfl
theorem e43v (C : CallF) (s : List PV) : acallI tab C 43 [.p (.list true [.int .i64,.int .i64,.int .i64] s),.p (.fn 95 [])] [] =
  (C 67 [.p (.list true [.int .i64,.int .i64,.int .i64] s),.p (.fn 95 [])] []).bind fun r1 =>
  some ([.p (.bool (geI ((r1.1.headD .undef).pv.toInt) (0 : Int)))],[]) := by kernel_rfl
theorem e44 (C : CallF) (v_0 : Int) (v_1 : Int) (v_2 : Int) : acallI tab C 44 [.p (.agg [.int .i64 v_0,.int .i64 v_1,.int .i64 v_2])] [] =
  (C 45 [.p (.agg [.int .i64 v_0,.int .i64 v_1,.int .i64 v_2])] []).bind fun r1 =>
  some ([.p (.bool (!(r1.1.headD .undef).pv.toBool))],[]) := by kernel_rfl
theorem e45 (C : CallF) (v_0 : Int) (v_1 : Int) (v_2 : Int) : acallI tab C 45 [.p (.agg [.int .i64 v_0,.int .i64 v_1,.int .i64 v_2])] [] =
  (C 68 [.p (.int .i64 1048576),.p (.list false [.int .i64] [.int .i64 v_0,.int .i64 v_1,.int .i64 v_2])] []).bind fun r1 =>
  some ([.p (.bool ((r1.1.headD .undef).pv.toBool))],[]) := by kernel_rfl
theorem e46 (C : CallF) (v_0 : Int) (v_1 : Int) (v_2 : Int) : acallI tab C 46 [.p (.agg [.int .i64 v_0,.int .i64 v_1,.int .i64 v_2])] [] =
  (C 69 [.p (.agg [.int .i64 v_0,.int .i64 v_1,.int .i64 v_2]),.p (.int .i64 1048576)] []).bind fun r1 =>
  some ([.p (.bool ((r1.1.headD .undef).pv.toBool))],[]) := by kernel_rfl
theorem e47 (C : CallF) (f : List PV) : acallI tab C 47 [.p (.list true [.int .i64,.slice true [.int .i64,.int .i64,.int .i64],.int .i64,.int .i64,.int .i64,.int .i64] f)] [] =
  bif (leI ((f.length : Nat) : Int) (50 : Int)) then
    (C 70 [.p (.list true [.int .i64,.slice true [.int .i64,.int .i64,.int .i64],.int .i64,.int .i64,.int .i64,.int .i64] f),.p (.fn 71 [])] []).bind fun r1 =>
    some ([.p (.bool (!(r1.1.headD .undef).pv.toBool))],[])
  else
    some ([.p (.bool false)],[]) := by kernel_rfl
theorem e48 (C : CallF) (s_0 : Int) (s_1 : List PV) (s_2 : Int) (s_3 : Int) (s_4 : Int) (s_5 : Int) : acallI tab C 48 [.p (.agg [.int .i64 s_0,.list true [.int .i64,.int .i64,.int .i64] s_1,.int .i64 s_2,.int .i64 s_3,.int .i64 s_4,.int .i64 s_5])] [] =
  bif (s_0 == (1 : Int)) then
    (C 73 [.p (.list true [.int .i64,.int .i64,.int .i64] s_1)] []).bind fun r1 =>
    some ([.p (.fn 96 [.ref [.list true [.int .i64,.int .i64,.int .i64] ((((r1.1.headD .undef).pv.cap 0).rcell 0).toList)]])],[])
  else
    bif (s_0 == (2 : Int)) then
      bif (s_0 == (2 : Int)) then
        (C 74 [.p (.agg [.int .i64 s_0,.list true [.int .i64,.int .i64,.int .i64] s_1,.int .i64 s_2,.int .i64 s_3,.int .i64 s_4,.int .i64 s_5])] []).bind fun r2 =>
        some ([.p (.fn 97 [.ref [.int .i64 ((((r2.1.headD .undef).pv.cap 0).rcell 0).toInt),.list true [.int .i64,.int .i64,.int .i64] ((((r2.1.headD .undef).pv.cap 0).rcell 1).toList),.int .i64 ((((r2.1.headD .undef).pv.cap 0).rcell 2).toInt),.int .i64 ((((r2.1.headD .undef).pv.cap 0).rcell 3).toInt),.int .i64 ((((r2.1.headD .undef).pv.cap 0).rcell 4).toInt),.int .i64 ((((r2.1.headD .undef).pv.cap 0).rcell 5).toInt)]])],[])
      else
        (C 75 [.p (.agg [.int .i64 s_0,.list true [.int .i64,.int .i64,.int .i64] s_1,.int .i64 s_2,.int .i64 s_3,.int .i64 s_4,.int .i64 s_5])] []).bind fun r3 =>
        some ([.p (.fn 99 [.ref [.int .i64 ((((r3.1.headD .undef).pv.cap 0).rcell 0).toInt),.list true [.int .i64,.int .i64,.int .i64] ((((r3.1.headD .undef).pv.cap 0).rcell 1).toList),.int .i64 ((((r3.1.headD .undef).pv.cap 0).rcell 2).toInt),.int .i64 ((((r3.1.headD .undef).pv.cap 0).rcell 3).toInt),.int .i64 ((((r3.1.headD .undef).pv.cap 0).rcell 4).toInt),.int .i64 ((((r3.1.headD .undef).pv.cap 0).rcell 5).toInt)]])],[])
    else
      bif (s_0 == (3 : Int)) then
        (C 74 [.p (.agg [.int .i64 s_0,.list true [.int .i64,.int .i64,.int .i64] s_1,.int .i64 s_2,.int .i64 s_3,.int .i64 s_4,.int .i64 s_5])] []).bind fun r4 =>
        some ([.p (.fn 97 [.ref [.int .i64 ((((r4.1.headD .undef).pv.cap 0).rcell 0).toInt),.list true [.int .i64,.int .i64,.int .i64] ((((r4.1.headD .undef).pv.cap 0).rcell 1).toList),.int .i64 ((((r4.1.headD .undef).pv.cap 0).rcell 2).toInt),.int .i64 ((((r4.1.headD .undef).pv.cap 0).rcell 3).toInt),.int .i64 ((((r4.1.headD .undef).pv.cap 0).rcell 4).toInt),.int .i64 ((((r4.1.headD .undef).pv.cap 0).rcell 5).toInt)]])],[])
      else
        (C 75 [.p (.agg [.int .i64 s_0,.list true [.int .i64,.int .i64,.int .i64] s_1,.int .i64 s_2,.int .i64 s_3,.int .i64 s_4,.int .i64 s_5])] []).bind fun r5 =>
        some ([.p (.fn 99 [.ref [.int .i64 ((((r5.1.headD .undef).pv.cap 0).rcell 0).toInt),.list true [.int .i64,.int .i64,.int .i64] ((((r5.1.headD .undef).pv.cap 0).rcell 1).toList),.int .i64 ((((r5.1.headD .undef).pv.cap 0).rcell 2).toInt),.int .i64 ((((r5.1.headD .undef).pv.cap 0).rcell 3).toInt),.int .i64 ((((r5.1.headD .undef).pv.cap 0).rcell 4).toInt),.int .i64 ((((r5.1.headD .undef).pv.cap 0).rcell 5).toInt)]])],[]) := by kernel_rfl
theorem e50 (C : CallF) (mk : List PV) (mv : List PV) : acallI tab C 50 [.p (.mapv mk mv)] [] =
  some ([.p (.fn 77 [.ref [.mapv mk mv]])],[]) := by kernel_rfl
theorem e53 (C : CallF) (v_0 : Int) (v_1 : Int) (v_2 : Int) : acallI tab C 53 [.p (.agg [.int .i64 v_0,.int .i64 v_1,.int .i64 v_2])] [] =
  some ([.p (.agg [.int .i64 v_0,.int .i64 v_1,.int .i64 v_2])],[]) := by kernel_rfl
def S54_1010 (s1' : List PV) (s2' : List PV) (t9' : List PV) (t10' : Int) (t11' : Int) : St := ⟨(.p (.list false [.int .i64] s1'))::(.p (.list false [.int .i64] s2'))::.undef::.undef::.undef::.undef::.undef::.undef::.undef::(.p (.list false [.int .i64] t9'))::(.p (.int .i64 t10'))::(.p (.int .i64 t11'))::List.replicate 24 .undef,[]⟩
theorem e54 (C : CallF) (s1 : List PV) (s2 : List PV) : acallI tab C 54 [.p (.list false [.int .i64] s1),.p (.list false [.int .i64] s2)] [] =
  L tab C 54 [] [.lp [1,0,1,0]] (S54_1010 s1 s2 s1 ((s1.length : Nat) : Int) 0) := by kernel_rfl
theorem e54_1010 (C : CallF) (s1' : List PV) (s2' : List PV) (t9' : List PV) (t10' : Int) (t11' : Int) : R tab C 54 [] [.lp [1,0,1,0]] (S54_1010 s1' s2' t9' t10' t11') =
  bif (ltI t11' t10') then
    bif ((leI (0 : Int) t11') && (ltI t11' ((t9'.length : Nat) : Int))) then bif (geI t11' ((s2'.length : Nat) : Int)) then
      some ([.p (.int .i64 1)],[])
    else
      bif ((leI (0 : Int) t11') && (ltI t11' ((s2'.length : Nat) : Int))) then (C 88 [.p (.int .i64 (((t9'.getD t11'.toNat .nil).cell 0).toInt)),.p (.int .i64 (((s2'.getD t11'.toNat .nil).cell 0).toInt))] []).bind fun r1 =>
      bif ((r1.1.headD .undef).pv.toInt != (0 : Int)) then
        some ([.p (.int .i64 ((r1.1.headD .undef).pv.toInt))],[])
      else
        L tab C 54 [] [.lp [1,0,1,0]] (S54_1010 s1' s2' t9' t10' (IntKind.i64.wrap (t11' + (1 : Int)))) else none else none
  else
    bif (ltI ((s1'.length : Nat) : Int) ((s2'.length : Nat) : Int)) then
      some ([.p (.int .i64 (-1))],[])
    else
      some ([.p (.int .i64 0)],[]) := by kernel_rfl
theorem e55 (C : CallF) (s_0 : Int) (s_1 : List PV) (s_2 : Int) (s_3 : Int) (s_4 : Int) (s_5 : Int) : acallI tab C 55 [.p (.agg [.int .i64 s_0,.list true [.int .i64,.int .i64,.int .i64] s_1,.int .i64 s_2,.int .i64 s_3,.int .i64 s_4,.int .i64 s_5])] [] =
  bif (gtI ((s_1.length : Nat) : Int) (200 : Int)) then
    some ([.p (.bool false)],[])
  else
    (C 32 [.p (.list true [.int .i64,.int .i64,.int .i64] s_1)] []).bind fun r1 =>
    bif (!(r1.1.headD .undef).pv.toBool) then
      some ([.p (.bool false)],[])
    else
      (C 89 [.p (.int .i64 s_3),.p (.int .i64 1),.p (.int .i64 50)] []).bind fun r2 =>
      bif (r2.1.headD .undef).pv.toBool then
        (C 89 [.p (.int .i64 s_4),.p (.int .i64 1),.p (.int .i64 10000)] []).bind fun r3 =>
        bif (r3.1.headD .undef).pv.toBool then
          bif (s_2 == (0 : Int)) then
            bif (s_3 == (0 : Int)) then
              bif (s_4 == (0 : Int)) then
                bif (s_0 == (1 : Int)) then
                  bif (geI ((s_1.length : Nat) : Int) (1 : Int)) then
                    bif (s_5 == (0 : Int)) then
                      some ([.p (.bool (s_2 == (0 : Int)))],[])
                    else
                      some ([.p (.bool false)],[])
                  else
                    some ([.p (.bool false)],[])
                else
                  bif (s_0 == (2 : Int)) then
                    bif (geI ((s_1.length : Nat) : Int) (2 : Int)) then
                      bif (s_5 == (0 : Int)) then
                        (C 89 [.p (.int .i64 s_2),.p (.int .i64 1),.p (.int .i64 500)] []).bind fun r4 =>
                        some ([.p (.bool ((r4.1.headD .undef).pv.toBool))],[])
                      else
                        some ([.p (.bool false)],[])
                    else
                      some ([.p (.bool false)],[])
                  else
                    bif (s_0 == (3 : Int)) then
                      bif (geI ((s_1.length : Nat) : Int) (3 : Int)) then
                        bif (s_5 == (0 : Int)) then
                          (C 89 [.p (.int .i64 s_2),.p (.int .i64 1),.p (.int .i64 500)] []).bind fun r5 =>
                          some ([.p (.bool ((r5.1.headD .undef).pv.toBool))],[])
                        else
                          some ([.p (.bool false)],[])
                      else
                        some ([.p (.bool false)],[])
                    else
                      bif (s_0 == (4 : Int)) then
                        bif (((s_1.length : Nat) : Int) == (1 : Int)) then
                          (C 89 [.p (.int .i64 s_5),.p (.int .i64 0),.p (.int .i64 2)] []).bind fun r6 =>
                          some ([.p (.bool ((r6.1.headD .undef).pv.toBool))],[])
                        else
                          some ([.p (.bool false)],[])
                      else
                        bif (s_0 == (5 : Int)) then
                          bif (((s_1.length : Nat) : Int) == (1 : Int)) then
                            some ([.p (.bool (s_5 == (0 : Int)))],[])
                          else
                            some ([.p (.bool false)],[])
                        else
                          some ([.p (.bool false)],[])
              else
                bif (s_0 == (1 : Int)) then
                  bif (geI ((s_1.length : Nat) : Int) (1 : Int)) then
                    some ([.p (.bool false)],[])
                  else
                    some ([.p (.bool false)],[])
                else
                  bif (s_0 == (2 : Int)) then
                    bif (geI ((s_1.length : Nat) : Int) (2 : Int)) then
                      some ([.p (.bool false)],[])
                    else
                      some ([.p (.bool false)],[])
                  else
                    bif (s_0 == (3 : Int)) then
                      bif (geI ((s_1.length : Nat) : Int) (3 : Int)) then
                        some ([.p (.bool false)],[])
                      else
                        some ([.p (.bool false)],[])
                    else
                      bif (s_0 == (4 : Int)) then
                        bif (((s_1.length : Nat) : Int) == (1 : Int)) then
                          (C 89 [.p (.int .i64 s_5),.p (.int .i64 0),.p (.int .i64 2)] []).bind fun r7 =>
                          some ([.p (.bool ((r7.1.headD .undef).pv.toBool))],[])
                        else
                          some ([.p (.bool false)],[])
                      else
                        bif (s_0 == (5 : Int)) then
                          bif (((s_1.length : Nat) : Int) == (1 : Int)) then
                            some ([.p (.bool (s_5 == (0 : Int)))],[])
                          else
                            some ([.p (.bool false)],[])
                        else
                          some ([.p (.bool false)],[])
            else
              bif (s_0 == (1 : Int)) then
                bif (geI ((s_1.length : Nat) : Int) (1 : Int)) then
                  some ([.p (.bool false)],[])
                else
                  some ([.p (.bool false)],[])
              else
                bif (s_0 == (2 : Int)) then
                  bif (geI ((s_1.length : Nat) : Int) (2 : Int)) then
                    some ([.p (.bool false)],[])
                  else
                    some ([.p (.bool false)],[])
                else
                  bif (s_0 == (3 : Int)) then
                    bif (geI ((s_1.length : Nat) : Int) (3 : Int)) then
                      some ([.p (.bool false)],[])
                    else
                      some ([.p (.bool false)],[])
                  else
                    bif (s_0 == (4 : Int)) then
                      bif (((s_1.length : Nat) : Int) == (1 : Int)) then
                        (C 89 [.p (.int .i64 s_5),.p (.int .i64 0),.p (.int .i64 2)] []).bind fun r8 =>
                        some ([.p (.bool ((r8.1.headD .undef).pv.toBool))],[])
                      else
                        some ([.p (.bool false)],[])
                    else
                      bif (s_0 == (5 : Int)) then
                        bif (((s_1.length : Nat) : Int) == (1 : Int)) then
                          some ([.p (.bool (s_5 == (0 : Int)))],[])
                        else
                          some ([.p (.bool false)],[])
                      else
                        some ([.p (.bool false)],[])
          else
            bif (s_3 == (0 : Int)) then
              bif (s_4 == (0 : Int)) then
                bif (s_0 == (1 : Int)) then
                  bif (geI ((s_1.length : Nat) : Int) (1 : Int)) then
                    bif (s_5 == (0 : Int)) then
                      some ([.p (.bool (s_2 == (0 : Int)))],[])
                    else
                      some ([.p (.bool false)],[])
                  else
                    some ([.p (.bool false)],[])
                else
                  bif (s_0 == (2 : Int)) then
                    bif (geI ((s_1.length : Nat) : Int) (2 : Int)) then
                      bif (s_5 == (0 : Int)) then
                        (C 89 [.p (.int .i64 s_2),.p (.int .i64 1),.p (.int .i64 500)] []).bind fun r9 =>
                        some ([.p (.bool ((r9.1.headD .undef).pv.toBool))],[])
                      else
                        some ([.p (.bool false)],[])
                    else
                      some ([.p (.bool false)],[])
                  else
                    bif (s_0 == (3 : Int)) then
                      bif (geI ((s_1.length : Nat) : Int) (3 : Int)) then
                        bif (s_5 == (0 : Int)) then
                          (C 89 [.p (.int .i64 s_2),.p (.int .i64 1),.p (.int .i64 500)] []).bind fun r10 =>
                          some ([.p (.bool ((r10.1.headD .undef).pv.toBool))],[])
                        else
                          some ([.p (.bool false)],[])
                      else
                        some ([.p (.bool false)],[])
                    else
                      bif (s_0 == (4 : Int)) then
                        some ([.p (.bool false)],[])
                      else
                        bif (s_0 == (5 : Int)) then
                          some ([.p (.bool false)],[])
                        else
                          some ([.p (.bool false)],[])
              else
                bif (s_0 == (1 : Int)) then
                  bif (geI ((s_1.length : Nat) : Int) (1 : Int)) then
                    some ([.p (.bool false)],[])
                  else
                    some ([.p (.bool false)],[])
                else
                  bif (s_0 == (2 : Int)) then
                    bif (geI ((s_1.length : Nat) : Int) (2 : Int)) then
                      some ([.p (.bool false)],[])
                    else
                      some ([.p (.bool false)],[])
                  else
                    bif (s_0 == (3 : Int)) then
                      bif (geI ((s_1.length : Nat) : Int) (3 : Int)) then
                        some ([.p (.bool false)],[])
                      else
                        some ([.p (.bool false)],[])
                    else
                      bif (s_0 == (4 : Int)) then
                        some ([.p (.bool false)],[])
                      else
                        bif (s_0 == (5 : Int)) then
                          some ([.p (.bool false)],[])
                        else
                          some ([.p (.bool false)],[])
            else
              bif (s_0 == (1 : Int)) then
                bif (geI ((s_1.length : Nat) : Int) (1 : Int)) then
                  some ([.p (.bool false)],[])
                else
                  some ([.p (.bool false)],[])
              else
                bif (s_0 == (2 : Int)) then
                  bif (geI ((s_1.length : Nat) : Int) (2 : Int)) then
                    some ([.p (.bool false)],[])
                  else
                    some ([.p (.bool false)],[])
                else
                  bif (s_0 == (3 : Int)) then
                    bif (geI ((s_1.length : Nat) : Int) (3 : Int)) then
                      some ([.p (.bool false)],[])
                    else
                      some ([.p (.bool false)],[])
                  else
                    bif (s_0 == (4 : Int)) then
                      some ([.p (.bool false)],[])
                    else
                      bif (s_0 == (5 : Int)) then
                        some ([.p (.bool false)],[])
                      else
                        some ([.p (.bool false)],[])
        else
          bif (s_3 == (0 : Int)) then
            bif (s_4 == (0 : Int)) then
              bif (s_0 == (1 : Int)) then
                bif (geI ((s_1.length : Nat) : Int) (1 : Int)) then
                  bif (s_5 == (0 : Int)) then
                    some ([.p (.bool (s_2 == (0 : Int)))],[])
                  else
                    some ([.p (.bool false)],[])
                else
                  some ([.p (.bool false)],[])
              else
                bif (s_0 == (2 : Int)) then
                  bif (geI ((s_1.length : Nat) : Int) (2 : Int)) then
                    bif (s_5 == (0 : Int)) then
                      (C 89 [.p (.int .i64 s_2),.p (.int .i64 1),.p (.int .i64 500)] []).bind fun r11 =>
                      some ([.p (.bool ((r11.1.headD .undef).pv.toBool))],[])
                    else
                      some ([.p (.bool false)],[])
                  else
                    some ([.p (.bool false)],[])
                else
                  bif (s_0 == (3 : Int)) then
                    bif (geI ((s_1.length : Nat) : Int) (3 : Int)) then
                      bif (s_5 == (0 : Int)) then
                        (C 89 [.p (.int .i64 s_2),.p (.int .i64 1),.p (.int .i64 500)] []).bind fun r12 =>
                        some ([.p (.bool ((r12.1.headD .undef).pv.toBool))],[])
                      else
                        some ([.p (.bool false)],[])
                    else
                      some ([.p (.bool false)],[])
                  else
                    bif (s_0 == (4 : Int)) then
                      some ([.p (.bool false)],[])
                    else
                      bif (s_0 == (5 : Int)) then
                        some ([.p (.bool false)],[])
                      else
                        some ([.p (.bool false)],[])
            else
              bif (s_0 == (1 : Int)) then
                bif (geI ((s_1.length : Nat) : Int) (1 : Int)) then
                  some ([.p (.bool false)],[])
                else
                  some ([.p (.bool false)],[])
              else
                bif (s_0 == (2 : Int)) then
                  bif (geI ((s_1.length : Nat) : Int) (2 : Int)) then
                    some ([.p (.bool false)],[])
                  else
                    some ([.p (.bool false)],[])
                else
                  bif (s_0 == (3 : Int)) then
                    bif (geI ((s_1.length : Nat) : Int) (3 : Int)) then
                      some ([.p (.bool false)],[])
                    else
                      some ([.p (.bool false)],[])
                  else
                    bif (s_0 == (4 : Int)) then
                      some ([.p (.bool false)],[])
                    else
                      bif (s_0 == (5 : Int)) then
                        some ([.p (.bool false)],[])
                      else
                        some ([.p (.bool false)],[])
          else
            bif (s_0 == (1 : Int)) then
              bif (geI ((s_1.length : Nat) : Int) (1 : Int)) then
                some ([.p (.bool false)],[])
              else
                some ([.p (.bool false)],[])
            else
              bif (s_0 == (2 : Int)) then
                bif (geI ((s_1.length : Nat) : Int) (2 : Int)) then
                  some ([.p (.bool false)],[])
                else
                  some ([.p (.bool false)],[])
              else
                bif (s_0 == (3 : Int)) then
                  bif (geI ((s_1.length : Nat) : Int) (3 : Int)) then
                    some ([.p (.bool false)],[])
                  else
                    some ([.p (.bool false)],[])
                else
                  bif (s_0 == (4 : Int)) then
                    some ([.p (.bool false)],[])
                  else
                    bif (s_0 == (5 : Int)) then
                      some ([.p (.bool false)],[])
                    else
                      some ([.p (.bool false)],[])
      else
        bif (s_3 == (0 : Int)) then
          bif (s_4 == (0 : Int)) then
            bif (s_0 == (1 : Int)) then
              bif (geI ((s_1.length : Nat) : Int) (1 : Int)) then
                bif (s_5 == (0 : Int)) then
                  some ([.p (.bool (s_2 == (0 : Int)))],[])
                else
                  some ([.p (.bool false)],[])
              else
                some ([.p (.bool false)],[])
            else
              bif (s_0 == (2 : Int)) then
                bif (geI ((s_1.length : Nat) : Int) (2 : Int)) then
                  bif (s_5 == (0 : Int)) then
                    (C 89 [.p (.int .i64 s_2),.p (.int .i64 1),.p (.int .i64 500)] []).bind fun r13 =>
                    some ([.p (.bool ((r13.1.headD .undef).pv.toBool))],[])
                  else
                    some ([.p (.bool false)],[])
                else
                  some ([.p (.bool false)],[])
              else
                bif (s_0 == (3 : Int)) then
                  bif (geI ((s_1.length : Nat) : Int) (3 : Int)) then
                    bif (s_5 == (0 : Int)) then
                      (C 89 [.p (.int .i64 s_2),.p (.int .i64 1),.p (.int .i64 500)] []).bind fun r14 =>
                      some ([.p (.bool ((r14.1.headD .undef).pv.toBool))],[])
                    else
                      some ([.p (.bool false)],[])
                  else
                    some ([.p (.bool false)],[])
                else
                  bif (s_0 == (4 : Int)) then
                    some ([.p (.bool false)],[])
                  else
                    bif (s_0 == (5 : Int)) then
                      some ([.p (.bool false)],[])
                    else
                      some ([.p (.bool false)],[])
          else
            bif (s_0 == (1 : Int)) then
              bif (geI ((s_1.length : Nat) : Int) (1 : Int)) then
                some ([.p (.bool false)],[])
              else
                some ([.p (.bool false)],[])
            else
              bif (s_0 == (2 : Int)) then
                bif (geI ((s_1.length : Nat) : Int) (2 : Int)) then
                  some ([.p (.bool false)],[])
                else
                  some ([.p (.bool false)],[])
              else
                bif (s_0 == (3 : Int)) then
                  bif (geI ((s_1.length : Nat) : Int) (3 : Int)) then
                    some ([.p (.bool false)],[])
                  else
                    some ([.p (.bool false)],[])
                else
                  bif (s_0 == (4 : Int)) then
                    some ([.p (.bool false)],[])
                  else
                    bif (s_0 == (5 : Int)) then
                      some ([.p (.bool false)],[])
                    else
                      some ([.p (.bool false)],[])
        else
          bif (s_0 == (1 : Int)) then
            bif (geI ((s_1.length : Nat) : Int) (1 : Int)) then
              some ([.p (.bool false)],[])
            else
              some ([.p (.bool false)],[])
          else
            bif (s_0 == (2 : Int)) then
              bif (geI ((s_1.length : Nat) : Int) (2 : Int)) then
                some ([.p (.bool false)],[])
              else
                some ([.p (.bool false)],[])
            else
              bif (s_0 == (3 : Int)) then
                bif (geI ((s_1.length : Nat) : Int) (3 : Int)) then
                  some ([.p (.bool false)],[])
                else
                  some ([.p (.bool false)],[])
              else
                bif (s_0 == (4 : Int)) then
                  some ([.p (.bool false)],[])
                else
                  bif (s_0 == (5 : Int)) then
                    some ([.p (.bool false)],[])
                  else
                    some ([.p (.bool false)],[]) := by kernel_rfl
def S56_1110101110010 (out_o : Nat) (out_l : Nat) (c' : List PV) (i' : Int) (s_b0 : Int) (s_b1 : List PV) (s_b2 : Int) (s_b3 : Int) (s_b4 : Int) (s_b5 : Int) (out_b : List PV) : St := ⟨.undef::(.ptr 1 0 0)::.undef::(.slice 3 3 out_o out_l)::(.p (.list true [.int .i64,.int .i64,.int .i64] c'))::(.p (.int .i64 i'))::List.replicate 155 .undef,[(1,.box [.p (.int .i64 s_b0),.p (.list true [.int .i64,.int .i64,.int .i64] s_b1),.p (.int .i64 s_b2),.p (.int .i64 s_b3),.p (.int .i64 s_b4),.p (.int .i64 s_b5)]),(3,.arr true [.int .i64,.int .i64,.int .i64] out_b)]⟩
def S56_11111010 (out_o : Nat) (out_l : Nat) (c' : List PV) (r_' : Int) (i' : Int) (s_b0 : Int) (s_b1 : List PV) (s_b2 : Int) (s_b3 : Int) (s_b4 : Int) (s_b5 : Int) (out_b : List PV) : St := ⟨.undef::(.ptr 1 0 0)::.undef::(.slice 3 3 out_o out_l)::(.p (.list true [.int .i64,.int .i64,.int .i64] c'))::.undef::(.p (.int .i64 r_'))::(.p (.int .i64 i'))::List.replicate 153 .undef,[(1,.box [.p (.int .i64 s_b0),.p (.list true [.int .i64,.int .i64,.int .i64] s_b1),.p (.int .i64 s_b2),.p (.int .i64 s_b3),.p (.int .i64 s_b4),.p (.int .i64 s_b5)]),(3,.arr true [.int .i64,.int .i64,.int .i64] out_b)]⟩
def S56_11111010_10010 (out_o : Nat) (out_l : Nat) (c' : List PV) (r_' : Int) (i' : Int) (j' : Int) (s_b0 : Int) (s_b1 : List PV) (s_b2 : Int) (s_b3 : Int) (s_b4 : Int) (s_b5 : Int) (out_b : List PV) : St := ⟨.undef::(.ptr 1 0 0)::.undef::(.slice 3 3 out_o out_l)::(.p (.list true [.int .i64,.int .i64,.int .i64] c'))::.undef::(.p (.int .i64 r_'))::(.p (.int .i64 i'))::(.p (.int .i64 j'))::List.replicate 152 .undef,[(1,.box [.p (.int .i64 s_b0),.p (.list true [.int .i64,.int .i64,.int .i64] s_b1),.p (.int .i64 s_b2),.p (.int .i64 s_b3),.p (.int .i64 s_b4),.p (.int .i64 s_b5)]),(3,.arr true [.int .i64,.int .i64,.int .i64] out_b)]⟩
def S56_11111010_10010_100110 (out_o : Nat) (out_l : Nat) (c' : List PV) (r_' : Int) (i' : Int) (j' : Int) (k' : Int) (s_b0 : Int) (s_b1 : List PV) (s_b2 : Int) (s_b3 : Int) (s_b4 : Int) (s_b5 : Int) (out_b : List PV) : St := ⟨.undef::(.ptr 1 0 0)::.undef::(.slice 3 3 out_o out_l)::(.p (.list true [.int .i64,.int .i64,.int .i64] c'))::.undef::(.p (.int .i64 r_'))::(.p (.int .i64 i'))::(.p (.int .i64 j'))::.undef::.undef::.undef::(.p (.int .i64 k'))::List.replicate 148 .undef,[(1,.box [.p (.int .i64 s_b0),.p (.list true [.int .i64,.int .i64,.int .i64] s_b1),.p (.int .i64 s_b2),.p (.int .i64 s_b3),.p (.int .i64 s_b4),.p (.int .i64 s_b5)]),(3,.arr true [.int .i64,.int .i64,.int .i64] out_b)]⟩
theorem e56 (C : CallF) (s_0 : Int) (s_1 : List PV) (s_2 : Int) (s_3 : Int) (s_4 : Int) (s_5 : Int) : acallI tab C 56 [.p (.agg [.int .i64 s_0,.list true [.int .i64,.int .i64,.int .i64] s_1,.int .i64 s_2,.int .i64 s_3,.int .i64 s_4,.int .i64 s_5])] [] =
  bif (s_0 == (1 : Int)) then
    some ([.p (.list true [.int .i64,.int .i64,.int .i64] s_1)],[])
  else
    bif (s_0 == (2 : Int)) then
      bif (s_0 == (2 : Int)) then
        L tab C 56 [] [.lp [1,1,1,0,1,0,1,1,1,0,0,1,0]] (S56_1110101110010 0 0 s_1 0 s_0 s_1 s_2 s_3 s_4 s_5 [])
      else
        L tab C 56 [] [.lp [1,1,1,1,1,0,1,0]] (S56_11111010 0 0 s_1 s_3 (IntKind.i64.wrap (0 - s_3)) s_0 s_1 s_2 s_3 s_4 s_5 [])
    else
      bif (s_0 == (3 : Int)) then
        L tab C 56 [] [.lp [1,1,1,0,1,0,1,1,1,0,0,1,0]] (S56_1110101110010 0 0 s_1 0 s_0 s_1 s_2 s_3 s_4 s_5 [])
      else
        L tab C 56 [] [.lp [1,1,1,1,1,0,1,0]] (S56_11111010 0 0 s_1 s_3 (IntKind.i64.wrap (0 - s_3)) s_0 s_1 s_2 s_3 s_4 s_5 []) := by kernel_rfl
theorem e56_1110101110010 (C : CallF) (out_o : Nat) (out_l : Nat) (c' : List PV) (i' : Int) (s_b0 : Int) (s_b1 : List PV) (s_b2 : Int) (s_b3 : Int) (s_b4 : Int) (s_b5 : Int) (out_b : List PV) : R tab C 56 [] [.lp [1,1,1,0,1,0,1,1,1,0,0,1,0]] (S56_1110101110010 out_o out_l c' i' s_b0 s_b1 s_b2 s_b3 s_b4 s_b5 out_b) =
  bif (ltI (IntKind.i64.wrap (i' + (1 : Int))) ((c'.length : Nat) : Int)) then
    bif ((leI (0 : Int) i') && (ltI i' ((c'.length : Nat) : Int))) then bif ((leI (0 : Int) (IntKind.i64.wrap (i' + (1 : Int)))) && (ltI (IntKind.i64.wrap (i' + (1 : Int))) ((c'.length : Nat) : Int))) then (C 90 [.p (.agg [.int .i64 (((c'.getD i'.toNat .nil).cell 0).toInt),.int .i64 (((c'.getD i'.toNat .nil).cell 1).toInt),.int .i64 (((c'.getD i'.toNat .nil).cell 2).toInt)]),.p (.agg [.int .i64 (((c'.getD ((IntKind.i64.wrap (i' + (1 : Int))).toNat) .nil).cell 0).toInt),.int .i64 (((c'.getD ((IntKind.i64.wrap (i' + (1 : Int))).toNat) .nil).cell 1).toInt),.int .i64 (((c'.getD ((IntKind.i64.wrap (i' + (1 : Int))).toNat) .nil).cell 2).toInt)]),.p (.int .i64 s_b2)] []).bind fun r1 =>
    bif (leN (out_l + (r1.1.headD .undef).freshList.length) 2147483648) then L tab C 56 [] [.lp [1,1,1,0,1,0,1,1,1,0,0,1,0]] (S56_1110101110010 0 (out_l + (r1.1.headD .undef).freshList.length) c' (IntKind.i64.wrap (i' + (1 : Int))) s_b0 s_b1 s_b2 s_b3 s_b4 s_b5 (((out_b.drop out_o).take out_l) ++ ((((r1.1.headD .undef).freshList).drop 0).take ((r1.1.headD .undef).freshList.length)))) else none else none else none
  else
    bif (s_b0 == (3 : Int)) then
      bif ((leI (0 : Int) (IntKind.i64.wrap (((c'.length : Nat) : Int) - (1 : Int)))) && (ltI (IntKind.i64.wrap (((c'.length : Nat) : Int) - (1 : Int))) ((c'.length : Nat) : Int))) then bif (ltI (0 : Int) ((c'.length : Nat) : Int)) then (C 90 [.p (.agg [.int .i64 (((c'.getD ((IntKind.i64.wrap (((c'.length : Nat) : Int) - (1 : Int))).toNat) .nil).cell 0).toInt),.int .i64 (((c'.getD ((IntKind.i64.wrap (((c'.length : Nat) : Int) - (1 : Int))).toNat) .nil).cell 1).toInt),.int .i64 (((c'.getD ((IntKind.i64.wrap (((c'.length : Nat) : Int) - (1 : Int))).toNat) .nil).cell 2).toInt)]),.p (.agg [.int .i64 (((c'.getD 0 .nil).cell 0).toInt),.int .i64 (((c'.getD 0 .nil).cell 1).toInt),.int .i64 (((c'.getD 0 .nil).cell 2).toInt)]),.p (.int .i64 s_b2)] []).bind fun r2 =>
      bif (leN (out_l + (r2.1.headD .undef).freshList.length) 2147483648) then some ([.p (.list true [.int .i64,.int .i64,.int .i64] (((((out_b.drop out_o).take out_l) ++ ((((r2.1.headD .undef).freshList).drop 0).take ((r2.1.headD .undef).freshList.length))).drop 0).take (out_l + (r2.1.headD .undef).freshList.length)))],[]) else none else none else none
    else
      some ([.p (.list true [.int .i64,.int .i64,.int .i64] ((out_b.drop out_o).take out_l))],[]) := by kernel_rfl
theorem e56_11111010 (C : CallF) (out_o : Nat) (out_l : Nat) (c' : List PV) (r_' : Int) (i' : Int) (s_b0 : Int) (s_b1 : List PV) (s_b2 : Int) (s_b3 : Int) (s_b4 : Int) (s_b5 : Int) (out_b : List PV) : R tab C 56 [] [.lp [1,1,1,1,1,0,1,0]] (S56_11111010 out_o out_l c' r_' i' s_b0 s_b1 s_b2 s_b3 s_b4 s_b5 out_b) =
  bif (leI i' r_') then
    L tab C 56 [] [.lp [1,1,1,1,1,0,1,0],.lp [1,0,0,1,0]] (S56_11111010_10010 out_o out_l c' r_' i' (IntKind.i64.wrap (0 - r_')) s_b0 s_b1 s_b2 s_b3 s_b4 s_b5 out_b)
  else
    some ([.p (.list true [.int .i64,.int .i64,.int .i64] ((out_b.drop out_o).take out_l))],[]) := by kernel_rfl
theorem e56_11111010_10010 (C : CallF) (out_o : Nat) (out_l : Nat) (c' : List PV) (r_' : Int) (i' : Int) (j' : Int) (s_b0 : Int) (s_b1 : List PV) (s_b2 : Int) (s_b3 : Int) (s_b4 : Int) (s_b5 : Int) (out_b : List PV) : R tab C 56 [] [.lp [1,1,1,1,1,0,1,0],.lp [1,0,0,1,0]] (S56_11111010_10010 out_o out_l c' r_' i' j' s_b0 s_b1 s_b2 s_b3 s_b4 s_b5 out_b) =
  bif (leI j' r_') then
    bif (s_b0 == (4 : Int)) then
      (C 91 [.p (.int .i64 (IntKind.i64.wrap ((IntKind.i64.wrap (i' * i'))+(IntKind.i64.wrap (j' * j'))))),.p (.int .i64 r_')] []).bind fun r1 =>
      bif (r1.1.headD .undef).pv.toBool then
        bif ((leI (0 : Int) s_b5) && (ltI s_b5 (3 : Int))) then bif (ltI (0 : Int) ((c'.length : Nat) : Int)) then (C 59 [.p (.agg [.int .i64 (((c'.getD 0 .nil).cell 0).toInt),.int .i64 (((c'.getD 0 .nil).cell 1).toInt),.int .i64 (((c'.getD 0 .nil).cell 2).toInt)]),.p (.agg [.int .i64 (((([.agg [.int .i64 (IntKind.i64.wrap (i' * s_b4)),.int .i64 (IntKind.i64.wrap (j' * s_b4)),.int .i64 0],.agg [.int .i64 (IntKind.i64.wrap (i' * s_b4)),.int .i64 0,.int .i64 (IntKind.i64.wrap (j' * s_b4))],.agg [.int .i64 0,.int .i64 (IntKind.i64.wrap (i' * s_b4)),.int .i64 (IntKind.i64.wrap (j' * s_b4))]] : List PV).getD (0 + s_b5.toNat) .nil).cell 0).toInt),.int .i64 (((([.agg [.int .i64 (IntKind.i64.wrap (i' * s_b4)),.int .i64 (IntKind.i64.wrap (j' * s_b4)),.int .i64 0],.agg [.int .i64 (IntKind.i64.wrap (i' * s_b4)),.int .i64 0,.int .i64 (IntKind.i64.wrap (j' * s_b4))],.agg [.int .i64 0,.int .i64 (IntKind.i64.wrap (i' * s_b4)),.int .i64 (IntKind.i64.wrap (j' * s_b4))]] : List PV).getD (0 + s_b5.toNat) .nil).cell 1).toInt),.int .i64 (((([.agg [.int .i64 (IntKind.i64.wrap (i' * s_b4)),.int .i64 (IntKind.i64.wrap (j' * s_b4)),.int .i64 0],.agg [.int .i64 (IntKind.i64.wrap (i' * s_b4)),.int .i64 0,.int .i64 (IntKind.i64.wrap (j' * s_b4))],.agg [.int .i64 0,.int .i64 (IntKind.i64.wrap (i' * s_b4)),.int .i64 (IntKind.i64.wrap (j' * s_b4))]] : List PV).getD (0 + s_b5.toNat) .nil).cell 2).toInt)])] []).bind fun r2 =>
        bif (leN (out_l + 1) 2147483648) then L tab C 56 [] [.lp [1,1,1,1,1,0,1,0],.lp [1,0,0,1,0]] (S56_11111010_10010 0 (out_l + 1) c' r_' i' (IntKind.i64.wrap (j' + (1 : Int))) s_b0 s_b1 s_b2 s_b3 s_b4 s_b5 (((out_b.drop out_o).take out_l) ++ ([.agg [.int .i64 (((r2.1.headD .undef).pv.cell 0).toInt),.int .i64 (((r2.1.headD .undef).pv.cell 1).toInt),.int .i64 (((r2.1.headD .undef).pv.cell 2).toInt)]] : List PV))) else none else none else none
      else
        L tab C 56 [] [.lp [1,1,1,1,1,0,1,0],.lp [1,0,0,1,0]] (S56_11111010_10010 out_o out_l c' r_' i' (IntKind.i64.wrap (j' + (1 : Int))) s_b0 s_b1 s_b2 s_b3 s_b4 s_b5 out_b)
    else
      L tab C 56 [] [.lp [1,1,1,1,1,0,1,0],.lp [1,0,0,1,0],.lp [1,0,0,1,1,0]] (S56_11111010_10010_100110 out_o out_l c' r_' i' j' (IntKind.i64.wrap (0 - r_')) s_b0 s_b1 s_b2 s_b3 s_b4 s_b5 out_b)
  else
    L tab C 56 [] [.lp [1,1,1,1,1,0,1,0]] (S56_11111010 out_o out_l c' r_' (IntKind.i64.wrap (i' + (1 : Int))) s_b0 s_b1 s_b2 s_b3 s_b4 s_b5 out_b) := by kernel_rfl
theorem e56_11111010_10010_100110 (C : CallF) (out_o : Nat) (out_l : Nat) (c' : List PV) (r_' : Int) (i' : Int) (j' : Int) (k' : Int) (s_b0 : Int) (s_b1 : List PV) (s_b2 : Int) (s_b3 : Int) (s_b4 : Int) (s_b5 : Int) (out_b : List PV) : R tab C 56 [] [.lp [1,1,1,1,1,0,1,0],.lp [1,0,0,1,0],.lp [1,0,0,1,1,0]] (S56_11111010_10010_100110 out_o out_l c' r_' i' j' k' s_b0 s_b1 s_b2 s_b3 s_b4 s_b5 out_b) =
  bif (leI k' r_') then
    (C 91 [.p (.int .i64 (IntKind.i64.wrap ((IntKind.i64.wrap ((IntKind.i64.wrap (i' * i'))+(IntKind.i64.wrap (j' * j'))))+(IntKind.i64.wrap (k' * k'))))),.p (.int .i64 r_')] []).bind fun r1 =>
    bif (r1.1.headD .undef).pv.toBool then
      bif (ltI (0 : Int) ((c'.length : Nat) : Int)) then (C 59 [.p (.agg [.int .i64 (((c'.getD 0 .nil).cell 0).toInt),.int .i64 (((c'.getD 0 .nil).cell 1).toInt),.int .i64 (((c'.getD 0 .nil).cell 2).toInt)]),.p (.agg [.int .i64 (IntKind.i64.wrap (i' * s_b4)),.int .i64 (IntKind.i64.wrap (j' * s_b4)),.int .i64 (IntKind.i64.wrap (k' * s_b4))])] []).bind fun r2 =>
      bif (leN (out_l + 1) 2147483648) then L tab C 56 [] [.lp [1,1,1,1,1,0,1,0],.lp [1,0,0,1,0],.lp [1,0,0,1,1,0]] (S56_11111010_10010_100110 0 (out_l + 1) c' r_' i' j' (IntKind.i64.wrap (k' + (1 : Int))) s_b0 s_b1 s_b2 s_b3 s_b4 s_b5 (((out_b.drop out_o).take out_l) ++ ([.agg [.int .i64 (((r2.1.headD .undef).pv.cell 0).toInt),.int .i64 (((r2.1.headD .undef).pv.cell 1).toInt),.int .i64 (((r2.1.headD .undef).pv.cell 2).toInt)]] : List PV))) else none else none
    else
      L tab C 56 [] [.lp [1,1,1,1,1,0,1,0],.lp [1,0,0,1,0],.lp [1,0,0,1,1,0]] (S56_11111010_10010_100110 out_o out_l c' r_' i' j' (IntKind.i64.wrap (k' + (1 : Int))) s_b0 s_b1 s_b2 s_b3 s_b4 s_b5 out_b)
  else
    L tab C 56 [] [.lp [1,1,1,1,1,0,1,0],.lp [1,0,0,1,0]] (S56_11111010_10010 out_o out_l c' r_' i' (IntKind.i64.wrap (j' + (1 : Int))) s_b0 s_b1 s_b2 s_b3 s_b4 s_b5 out_b) := by kernel_rfl
def S57_111100 (a' : List PV) (b' : List PV) (out_o : Nat) (out_l : Nat) (out_b : List PV) : St := ⟨.undef::.undef::.undef::(.p (.list true [.int .i64,.int .i64,.int .i64] a'))::(.p (.list true [.int .i64,.int .i64,.int .i64] b'))::(.slice 5 3 out_o out_l)::List.replicate 73 .undef,[(5,.arr true [.int .i64,.int .i64,.int .i64] out_b)]⟩
theorem e57 (C : CallF) (l : List PV) : acallI tab C 57 [.p (.list true [.int .i64,.int .i64,.int .i64] l)] [] =
  bif (ltI ((l.length : Nat) : Int) (2 : Int)) then
    some ([.p (.list true [.int .i64,.int .i64,.int .i64] l)],[])
  else
    bif ((leI (0 : Int) (IntKind.i64.wrap (((l.length : Nat) : Int).tdiv (2 : Int)))) && ((leI (IntKind.i64.wrap (((l.length : Nat) : Int).tdiv (2 : Int))) ((l.length : Nat) : Int)) && (leI ((l.length : Nat) : Int) ((l.length : Nat) : Int)))) then (C 57 [.p (.list true [.int .i64,.int .i64,.int .i64] ((l.drop 0).take (((IntKind.i64.wrap (((l.length : Nat) : Int).tdiv (2 : Int))) - (0 : Int)).toNat)))] []).bind fun r1 =>
    bif ((leI (0 : Int) (IntKind.i64.wrap (((l.length : Nat) : Int).tdiv (2 : Int)))) && ((leI (IntKind.i64.wrap (((l.length : Nat) : Int).tdiv (2 : Int))) ((l.length : Nat) : Int)) && ((leI ((l.length : Nat) : Int) ((l.length : Nat) : Int)) && (leI ((l.length : Nat) : Int) ((l.length : Nat) : Int))))) then (C 57 [.p (.list true [.int .i64,.int .i64,.int .i64] ((l.drop ((IntKind.i64.wrap (((l.length : Nat) : Int).tdiv (2 : Int))).toNat)).take ((((l.length : Nat) : Int) - (IntKind.i64.wrap (((l.length : Nat) : Int).tdiv (2 : Int)))).toNat)))] []).bind fun r2 =>
    L tab C 57 [] [.lp [1,1,1,1,0,0]] (S57_111100 ((r1.1.headD .undef).pv.toList) ((r2.1.headD .undef).pv.toList) 0 0 []) else none else none := by kernel_rfl
theorem e57_111100 (C : CallF) (a' : List PV) (b' : List PV) (out_o : Nat) (out_l : Nat) (out_b : List PV) : R tab C 57 [] [.lp [1,1,1,1,0,0]] (S57_111100 a' b' out_o out_l out_b) =
  bif (gtI ((a'.length : Nat) : Int) (0 : Int)) then
    bif (((b'.length : Nat) : Int) == (0 : Int)) then
      bif (gtI ((b'.length : Nat) : Int) (0 : Int)) then
        bif (ltI (0 : Int) ((a'.length : Nat) : Int)) then bif (ltI (0 : Int) ((b'.length : Nat) : Int)) then bif ((((a'.getD 0 .nil).cell 0).toInt == ((b'.getD 0 .nil).cell 0).toInt) && ((((a'.getD 0 .nil).cell 1).toInt == ((b'.getD 0 .nil).cell 1).toInt) && ((((a'.getD 0 .nil).cell 2).toInt == ((b'.getD 0 .nil).cell 2).toInt) && true))) then
          bif ((leI (1 : Int) ((b'.length : Nat) : Int)) && ((leI ((b'.length : Nat) : Int) ((b'.length : Nat) : Int)) && (leI ((b'.length : Nat) : Int) ((b'.length : Nat) : Int)))) then bif (ltI (0 : Int) ((a'.length : Nat) : Int)) then bif (leN (out_l + 1) 2147483648) then bif ((leI (1 : Int) ((a'.length : Nat) : Int)) && ((leI ((a'.length : Nat) : Int) ((a'.length : Nat) : Int)) && (leI ((a'.length : Nat) : Int) ((a'.length : Nat) : Int)))) then L tab C 57 [] [.lp [1,1,1,1,0,0]] (S57_111100 ((a'.drop 1).take ((((a'.length : Nat) : Int) - (1 : Int)).toNat)) ((b'.drop 1).take ((((b'.length : Nat) : Int) - (1 : Int)).toNat)) 0 (out_l + 1) (((out_b.drop out_o).take out_l) ++ ([.agg [.int .i64 (((a'.getD 0 .nil).cell 0).toInt),.int .i64 (((a'.getD 0 .nil).cell 1).toInt),.int .i64 (((a'.getD 0 .nil).cell 2).toInt)]] : List PV))) else none else none else none else none
        else
          bif (ltI (0 : Int) ((a'.length : Nat) : Int)) then bif (leN (out_l + 1) 2147483648) then bif ((leI (1 : Int) ((a'.length : Nat) : Int)) && ((leI ((a'.length : Nat) : Int) ((a'.length : Nat) : Int)) && (leI ((a'.length : Nat) : Int) ((a'.length : Nat) : Int)))) then L tab C 57 [] [.lp [1,1,1,1,0,0]] (S57_111100 ((a'.drop 1).take ((((a'.length : Nat) : Int) - (1 : Int)).toNat)) b' 0 (out_l + 1) (((out_b.drop out_o).take out_l) ++ ([.agg [.int .i64 (((a'.getD 0 .nil).cell 0).toInt),.int .i64 (((a'.getD 0 .nil).cell 1).toInt),.int .i64 (((a'.getD 0 .nil).cell 2).toInt)]] : List PV))) else none else none else none else none else none
      else
        bif (ltI (0 : Int) ((a'.length : Nat) : Int)) then bif (leN (out_l + 1) 2147483648) then bif ((leI (1 : Int) ((a'.length : Nat) : Int)) && ((leI ((a'.length : Nat) : Int) ((a'.length : Nat) : Int)) && (leI ((a'.length : Nat) : Int) ((a'.length : Nat) : Int)))) then L tab C 57 [] [.lp [1,1,1,1,0,0]] (S57_111100 ((a'.drop 1).take ((((a'.length : Nat) : Int) - (1 : Int)).toNat)) b' 0 (out_l + 1) (((out_b.drop out_o).take out_l) ++ ([.agg [.int .i64 (((a'.getD 0 .nil).cell 0).toInt),.int .i64 (((a'.getD 0 .nil).cell 1).toInt),.int .i64 (((a'.getD 0 .nil).cell 2).toInt)]] : List PV))) else none else none else none
    else
      bif (gtI ((a'.length : Nat) : Int) (0 : Int)) then
        bif (ltI (0 : Int) ((a'.length : Nat) : Int)) then bif (ltI (0 : Int) ((b'.length : Nat) : Int)) then (C 38 [.p (.agg [.int .i64 (((a'.getD 0 .nil).cell 0).toInt),.int .i64 (((a'.getD 0 .nil).cell 1).toInt),.int .i64 (((a'.getD 0 .nil).cell 2).toInt)]),.p (.agg [.int .i64 (((b'.getD 0 .nil).cell 0).toInt),.int .i64 (((b'.getD 0 .nil).cell 1).toInt),.int .i64 (((b'.getD 0 .nil).cell 2).toInt)])] []).bind fun r1 =>
        bif (leI ((r1.1.headD .undef).pv.toInt) (0 : Int)) then
          bif (gtI ((b'.length : Nat) : Int) (0 : Int)) then
            bif (ltI (0 : Int) ((a'.length : Nat) : Int)) then bif (ltI (0 : Int) ((b'.length : Nat) : Int)) then bif ((((a'.getD 0 .nil).cell 0).toInt == ((b'.getD 0 .nil).cell 0).toInt) && ((((a'.getD 0 .nil).cell 1).toInt == ((b'.getD 0 .nil).cell 1).toInt) && ((((a'.getD 0 .nil).cell 2).toInt == ((b'.getD 0 .nil).cell 2).toInt) && true))) then
              bif ((leI (1 : Int) ((b'.length : Nat) : Int)) && ((leI ((b'.length : Nat) : Int) ((b'.length : Nat) : Int)) && (leI ((b'.length : Nat) : Int) ((b'.length : Nat) : Int)))) then bif (ltI (0 : Int) ((a'.length : Nat) : Int)) then bif (leN (out_l + 1) 2147483648) then bif ((leI (1 : Int) ((a'.length : Nat) : Int)) && ((leI ((a'.length : Nat) : Int) ((a'.length : Nat) : Int)) && (leI ((a'.length : Nat) : Int) ((a'.length : Nat) : Int)))) then L tab C 57 [] [.lp [1,1,1,1,0,0]] (S57_111100 ((a'.drop 1).take ((((a'.length : Nat) : Int) - (1 : Int)).toNat)) ((b'.drop 1).take ((((b'.length : Nat) : Int) - (1 : Int)).toNat)) 0 (out_l + 1) (((out_b.drop out_o).take out_l) ++ ([.agg [.int .i64 (((a'.getD 0 .nil).cell 0).toInt),.int .i64 (((a'.getD 0 .nil).cell 1).toInt),.int .i64 (((a'.getD 0 .nil).cell 2).toInt)]] : List PV))) else none else none else none else none
            else
              bif (ltI (0 : Int) ((a'.length : Nat) : Int)) then bif (leN (out_l + 1) 2147483648) then bif ((leI (1 : Int) ((a'.length : Nat) : Int)) && ((leI ((a'.length : Nat) : Int) ((a'.length : Nat) : Int)) && (leI ((a'.length : Nat) : Int) ((a'.length : Nat) : Int)))) then L tab C 57 [] [.lp [1,1,1,1,0,0]] (S57_111100 ((a'.drop 1).take ((((a'.length : Nat) : Int) - (1 : Int)).toNat)) b' 0 (out_l + 1) (((out_b.drop out_o).take out_l) ++ ([.agg [.int .i64 (((a'.getD 0 .nil).cell 0).toInt),.int .i64 (((a'.getD 0 .nil).cell 1).toInt),.int .i64 (((a'.getD 0 .nil).cell 2).toInt)]] : List PV))) else none else none else none else none else none
          else
            bif (ltI (0 : Int) ((a'.length : Nat) : Int)) then bif (leN (out_l + 1) 2147483648) then bif ((leI (1 : Int) ((a'.length : Nat) : Int)) && ((leI ((a'.length : Nat) : Int) ((a'.length : Nat) : Int)) && (leI ((a'.length : Nat) : Int) ((a'.length : Nat) : Int)))) then L tab C 57 [] [.lp [1,1,1,1,0,0]] (S57_111100 ((a'.drop 1).take ((((a'.length : Nat) : Int) - (1 : Int)).toNat)) b' 0 (out_l + 1) (((out_b.drop out_o).take out_l) ++ ([.agg [.int .i64 (((a'.getD 0 .nil).cell 0).toInt),.int .i64 (((a'.getD 0 .nil).cell 1).toInt),.int .i64 (((a'.getD 0 .nil).cell 2).toInt)]] : List PV))) else none else none else none
        else
          bif (ltI (0 : Int) ((b'.length : Nat) : Int)) then bif (leN (out_l + 1) 2147483648) then bif ((leI (1 : Int) ((b'.length : Nat) : Int)) && ((leI ((b'.length : Nat) : Int) ((b'.length : Nat) : Int)) && (leI ((b'.length : Nat) : Int) ((b'.length : Nat) : Int)))) then L tab C 57 [] [.lp [1,1,1,1,0,0]] (S57_111100 a' ((b'.drop 1).take ((((b'.length : Nat) : Int) - (1 : Int)).toNat)) 0 (out_l + 1) (((out_b.drop out_o).take out_l) ++ ([.agg [.int .i64 (((b'.getD 0 .nil).cell 0).toInt),.int .i64 (((b'.getD 0 .nil).cell 1).toInt),.int .i64 (((b'.getD 0 .nil).cell 2).toInt)]] : List PV))) else none else none else none else none else none
      else
        bif (ltI (0 : Int) ((b'.length : Nat) : Int)) then bif (leN (out_l + 1) 2147483648) then bif ((leI (1 : Int) ((b'.length : Nat) : Int)) && ((leI ((b'.length : Nat) : Int) ((b'.length : Nat) : Int)) && (leI ((b'.length : Nat) : Int) ((b'.length : Nat) : Int)))) then L tab C 57 [] [.lp [1,1,1,1,0,0]] (S57_111100 a' ((b'.drop 1).take ((((b'.length : Nat) : Int) - (1 : Int)).toNat)) 0 (out_l + 1) (((out_b.drop out_o).take out_l) ++ ([.agg [.int .i64 (((b'.getD 0 .nil).cell 0).toInt),.int .i64 (((b'.getD 0 .nil).cell 1).toInt),.int .i64 (((b'.getD 0 .nil).cell 2).toInt)]] : List PV))) else none else none else none
  else
    bif (gtI ((b'.length : Nat) : Int) (0 : Int)) then
      bif (((b'.length : Nat) : Int) == (0 : Int)) then
        bif (gtI ((b'.length : Nat) : Int) (0 : Int)) then
          bif (ltI (0 : Int) ((a'.length : Nat) : Int)) then bif (ltI (0 : Int) ((b'.length : Nat) : Int)) then bif ((((a'.getD 0 .nil).cell 0).toInt == ((b'.getD 0 .nil).cell 0).toInt) && ((((a'.getD 0 .nil).cell 1).toInt == ((b'.getD 0 .nil).cell 1).toInt) && ((((a'.getD 0 .nil).cell 2).toInt == ((b'.getD 0 .nil).cell 2).toInt) && true))) then
            bif ((leI (1 : Int) ((b'.length : Nat) : Int)) && ((leI ((b'.length : Nat) : Int) ((b'.length : Nat) : Int)) && (leI ((b'.length : Nat) : Int) ((b'.length : Nat) : Int)))) then bif (ltI (0 : Int) ((a'.length : Nat) : Int)) then bif (leN (out_l + 1) 2147483648) then bif ((leI (1 : Int) ((a'.length : Nat) : Int)) && ((leI ((a'.length : Nat) : Int) ((a'.length : Nat) : Int)) && (leI ((a'.length : Nat) : Int) ((a'.length : Nat) : Int)))) then L tab C 57 [] [.lp [1,1,1,1,0,0]] (S57_111100 ((a'.drop 1).take ((((a'.length : Nat) : Int) - (1 : Int)).toNat)) ((b'.drop 1).take ((((b'.length : Nat) : Int) - (1 : Int)).toNat)) 0 (out_l + 1) (((out_b.drop out_o).take out_l) ++ ([.agg [.int .i64 (((a'.getD 0 .nil).cell 0).toInt),.int .i64 (((a'.getD 0 .nil).cell 1).toInt),.int .i64 (((a'.getD 0 .nil).cell 2).toInt)]] : List PV))) else none else none else none else none
          else
            bif (ltI (0 : Int) ((a'.length : Nat) : Int)) then bif (leN (out_l + 1) 2147483648) then bif ((leI (1 : Int) ((a'.length : Nat) : Int)) && ((leI ((a'.length : Nat) : Int) ((a'.length : Nat) : Int)) && (leI ((a'.length : Nat) : Int) ((a'.length : Nat) : Int)))) then L tab C 57 [] [.lp [1,1,1,1,0,0]] (S57_111100 ((a'.drop 1).take ((((a'.length : Nat) : Int) - (1 : Int)).toNat)) b' 0 (out_l + 1) (((out_b.drop out_o).take out_l) ++ ([.agg [.int .i64 (((a'.getD 0 .nil).cell 0).toInt),.int .i64 (((a'.getD 0 .nil).cell 1).toInt),.int .i64 (((a'.getD 0 .nil).cell 2).toInt)]] : List PV))) else none else none else none else none else none
        else
          bif (ltI (0 : Int) ((a'.length : Nat) : Int)) then bif (leN (out_l + 1) 2147483648) then bif ((leI (1 : Int) ((a'.length : Nat) : Int)) && ((leI ((a'.length : Nat) : Int) ((a'.length : Nat) : Int)) && (leI ((a'.length : Nat) : Int) ((a'.length : Nat) : Int)))) then L tab C 57 [] [.lp [1,1,1,1,0,0]] (S57_111100 ((a'.drop 1).take ((((a'.length : Nat) : Int) - (1 : Int)).toNat)) b' 0 (out_l + 1) (((out_b.drop out_o).take out_l) ++ ([.agg [.int .i64 (((a'.getD 0 .nil).cell 0).toInt),.int .i64 (((a'.getD 0 .nil).cell 1).toInt),.int .i64 (((a'.getD 0 .nil).cell 2).toInt)]] : List PV))) else none else none else none
      else
        bif (gtI ((a'.length : Nat) : Int) (0 : Int)) then
          bif (ltI (0 : Int) ((a'.length : Nat) : Int)) then bif (ltI (0 : Int) ((b'.length : Nat) : Int)) then (C 38 [.p (.agg [.int .i64 (((a'.getD 0 .nil).cell 0).toInt),.int .i64 (((a'.getD 0 .nil).cell 1).toInt),.int .i64 (((a'.getD 0 .nil).cell 2).toInt)]),.p (.agg [.int .i64 (((b'.getD 0 .nil).cell 0).toInt),.int .i64 (((b'.getD 0 .nil).cell 1).toInt),.int .i64 (((b'.getD 0 .nil).cell 2).toInt)])] []).bind fun r2 =>
          bif (leI ((r2.1.headD .undef).pv.toInt) (0 : Int)) then
            bif (gtI ((b'.length : Nat) : Int) (0 : Int)) then
              bif (ltI (0 : Int) ((a'.length : Nat) : Int)) then bif (ltI (0 : Int) ((b'.length : Nat) : Int)) then bif ((((a'.getD 0 .nil).cell 0).toInt == ((b'.getD 0 .nil).cell 0).toInt) && ((((a'.getD 0 .nil).cell 1).toInt == ((b'.getD 0 .nil).cell 1).toInt) && ((((a'.getD 0 .nil).cell 2).toInt == ((b'.getD 0 .nil).cell 2).toInt) && true))) then
                bif ((leI (1 : Int) ((b'.length : Nat) : Int)) && ((leI ((b'.length : Nat) : Int) ((b'.length : Nat) : Int)) && (leI ((b'.length : Nat) : Int) ((b'.length : Nat) : Int)))) then bif (ltI (0 : Int) ((a'.length : Nat) : Int)) then bif (leN (out_l + 1) 2147483648) then bif ((leI (1 : Int) ((a'.length : Nat) : Int)) && ((leI ((a'.length : Nat) : Int) ((a'.length : Nat) : Int)) && (leI ((a'.length : Nat) : Int) ((a'.length : Nat) : Int)))) then L tab C 57 [] [.lp [1,1,1,1,0,0]] (S57_111100 ((a'.drop 1).take ((((a'.length : Nat) : Int) - (1 : Int)).toNat)) ((b'.drop 1).take ((((b'.length : Nat) : Int) - (1 : Int)).toNat)) 0 (out_l + 1) (((out_b.drop out_o).take out_l) ++ ([.agg [.int .i64 (((a'.getD 0 .nil).cell 0).toInt),.int .i64 (((a'.getD 0 .nil).cell 1).toInt),.int .i64 (((a'.getD 0 .nil).cell 2).toInt)]] : List PV))) else none else none else none else none
              else
                bif (ltI (0 : Int) ((a'.length : Nat) : Int)) then bif (leN (out_l + 1) 2147483648) then bif ((leI (1 : Int) ((a'.length : Nat) : Int)) && ((leI ((a'.length : Nat) : Int) ((a'.length : Nat) : Int)) && (leI ((a'.length : Nat) : Int) ((a'.length : Nat) : Int)))) then L tab C 57 [] [.lp [1,1,1,1,0,0]] (S57_111100 ((a'.drop 1).take ((((a'.length : Nat) : Int) - (1 : Int)).toNat)) b' 0 (out_l + 1) (((out_b.drop out_o).take out_l) ++ ([.agg [.int .i64 (((a'.getD 0 .nil).cell 0).toInt),.int .i64 (((a'.getD 0 .nil).cell 1).toInt),.int .i64 (((a'.getD 0 .nil).cell 2).toInt)]] : List PV))) else none else none else none else none else none
            else
              bif (ltI (0 : Int) ((a'.length : Nat) : Int)) then bif (leN (out_l + 1) 2147483648) then bif ((leI (1 : Int) ((a'.length : Nat) : Int)) && ((leI ((a'.length : Nat) : Int) ((a'.length : Nat) : Int)) && (leI ((a'.length : Nat) : Int) ((a'.length : Nat) : Int)))) then L tab C 57 [] [.lp [1,1,1,1,0,0]] (S57_111100 ((a'.drop 1).take ((((a'.length : Nat) : Int) - (1 : Int)).toNat)) b' 0 (out_l + 1) (((out_b.drop out_o).take out_l) ++ ([.agg [.int .i64 (((a'.getD 0 .nil).cell 0).toInt),.int .i64 (((a'.getD 0 .nil).cell 1).toInt),.int .i64 (((a'.getD 0 .nil).cell 2).toInt)]] : List PV))) else none else none else none
          else
            bif (ltI (0 : Int) ((b'.length : Nat) : Int)) then bif (leN (out_l + 1) 2147483648) then bif ((leI (1 : Int) ((b'.length : Nat) : Int)) && ((leI ((b'.length : Nat) : Int) ((b'.length : Nat) : Int)) && (leI ((b'.length : Nat) : Int) ((b'.length : Nat) : Int)))) then L tab C 57 [] [.lp [1,1,1,1,0,0]] (S57_111100 a' ((b'.drop 1).take ((((b'.length : Nat) : Int) - (1 : Int)).toNat)) 0 (out_l + 1) (((out_b.drop out_o).take out_l) ++ ([.agg [.int .i64 (((b'.getD 0 .nil).cell 0).toInt),.int .i64 (((b'.getD 0 .nil).cell 1).toInt),.int .i64 (((b'.getD 0 .nil).cell 2).toInt)]] : List PV))) else none else none else none else none else none
        else
          bif (ltI (0 : Int) ((b'.length : Nat) : Int)) then bif (leN (out_l + 1) 2147483648) then bif ((leI (1 : Int) ((b'.length : Nat) : Int)) && ((leI ((b'.length : Nat) : Int) ((b'.length : Nat) : Int)) && (leI ((b'.length : Nat) : Int) ((b'.length : Nat) : Int)))) then L tab C 57 [] [.lp [1,1,1,1,0,0]] (S57_111100 a' ((b'.drop 1).take ((((b'.length : Nat) : Int) - (1 : Int)).toNat)) 0 (out_l + 1) (((out_b.drop out_o).take out_l) ++ ([.agg [.int .i64 (((b'.getD 0 .nil).cell 0).toInt),.int .i64 (((b'.getD 0 .nil).cell 1).toInt),.int .i64 (((b'.getD 0 .nil).cell 2).toInt)]] : List PV))) else none else none else none
    else
      some ([.p (.list true [.int .i64,.int .i64,.int .i64] ((out_b.drop out_o).take out_l))],[]) := by kernel_rfl
theorem e58 (C : CallF) (v_0 : Int) (v_1 : Int) (v_2 : Int) (i : Int) : acallI tab C 58 [.p (.agg [.int .i64 v_0,.int .i64 v_1,.int .i64 v_2]),.p (.int .i64 i)] [] =
  bif (i == (0 : Int)) then
    some ([.p (.int .i64 v_0)],[])
  else
    bif (i == (1 : Int)) then
      some ([.p (.int .i64 v_1)],[])
    else
      some ([.p (.int .i64 v_2)],[]) := by kernel_rfl
theorem e59 (C : CallF) (a_0 : Int) (a_1 : Int) (a_2 : Int) (b_0 : Int) (b_1 : Int) (b_2 : Int) : acallI tab C 59 [.p (.agg [.int .i64 a_0,.int .i64 a_1,.int .i64 a_2]),.p (.agg [.int .i64 b_0,.int .i64 b_1,.int .i64 b_2])] [] =
  some ([.p (.agg [.int .i64 (IntKind.i64.wrap (a_0 + b_0)),.int .i64 (IntKind.i64.wrap (a_1 + b_1)),.int .i64 (IntKind.i64.wrap (a_2 + b_2))])],[]) := by kernel_rfl
theorem e60 (C : CallF) (v_0 : Int) (v_1 : Int) (v_2 : Int) : acallI tab C 60 [.p (.agg [.int .i64 v_0,.int .i64 v_1,.int .i64 v_2])] [] =
  some ([.p (.agg [.int .i64 (IntKind.i64.wrap (0 - v_0)),.int .i64 (IntKind.i64.wrap (0 - v_1)),.int .i64 (IntKind.i64.wrap (0 - v_2))])],[]) := by kernel_rfl
theorem e62 (C : CallF) (x : Int) (y : Int) : acallI tab C 62 [.p (.int .u64 x),.p (.int .u64 y)] [] =
  some ([.p (.int .u64 (IntKind.u64.wrap ((IntKind.u64.wrap ((IntKind.u64.wrap ((x.fdiv (2 ^ 32)) * (y.fdiv (2 ^ 32))))+((IntKind.u64.wrap ((IntKind.u64.wrap ((x.fdiv (2 ^ 32)) * (IntKind.u64.wrap (((BitVec.ofInt IntKind.u64.bits y) &&& (BitVec.ofInt IntKind.u64.bits (4294967295 : Int))).toNat : Nat))))+((IntKind.u64.wrap ((IntKind.u64.wrap (((BitVec.ofInt IntKind.u64.bits x) &&& (BitVec.ofInt IntKind.u64.bits (4294967295 : Int))).toNat : Nat)) * (IntKind.u64.wrap (((BitVec.ofInt IntKind.u64.bits y) &&& (BitVec.ofInt IntKind.u64.bits (4294967295 : Int))).toNat : Nat)))).fdiv (2 ^ 32)))).fdiv (2 ^ 32))))+((IntKind.u64.wrap ((IntKind.u64.wrap (((BitVec.ofInt IntKind.u64.bits (IntKind.u64.wrap ((IntKind.u64.wrap ((x.fdiv (2 ^ 32)) * (IntKind.u64.wrap (((BitVec.ofInt IntKind.u64.bits y) &&& (BitVec.ofInt IntKind.u64.bits (4294967295 : Int))).toNat : Nat))))+((IntKind.u64.wrap ((IntKind.u64.wrap (((BitVec.ofInt IntKind.u64.bits x) &&& (BitVec.ofInt IntKind.u64.bits (4294967295 : Int))).toNat : Nat)) * (IntKind.u64.wrap (((BitVec.ofInt IntKind.u64.bits y) &&& (BitVec.ofInt IntKind.u64.bits (4294967295 : Int))).toNat : Nat)))).fdiv (2 ^ 32))))) &&& (BitVec.ofInt IntKind.u64.bits (4294967295 : Int))).toNat : Nat))+(IntKind.u64.wrap ((IntKind.u64.wrap (((BitVec.ofInt IntKind.u64.bits x) &&& (BitVec.ofInt IntKind.u64.bits (4294967295 : Int))).toNat : Nat)) * (y.fdiv (2 ^ 32)))))).fdiv (2 ^ 32))))),.p (.int .u64 (IntKind.u64.wrap (x * y)))],[]) := by kernel_rfl
theorem e63 (C : CallF) (v_0 : Int) (v_1 : Int) (v_2 : Int) : acallI tab C 63 [.p (.agg [.int .i64 v_0,.int .i64 v_1,.int .i64 v_2])] [] =
  (C 68 [.p (.int .i64 16777216),.p (.list false [.int .i64] [.int .i64 v_0,.int .i64 v_1,.int .i64 v_2])] []).bind fun r1 =>
  some ([.p (.bool ((r1.1.headD .undef).pv.toBool))],[]) := by kernel_rfl
theorem e64d (C : CallF) (a_0 : Int) (a_1 : Int) (a_2 : Int) (b_0 : Int) (b_1 : Int) (b_2 : Int) : acallI tab C 64 [.p (.agg [.int .i64 a_0,.int .i64 a_1,.int .i64 a_2]),.p (.agg [.int .i64 b_0,.int .i64 b_1,.int .i64 b_2]),.p (.fn 65 [])] [] =
  (C 65 [.p (.int .i64 a_0),.p (.int .i64 b_0)] []).bind fun r1 =>
  (C 65 [.p (.int .i64 a_1),.p (.int .i64 b_1)] []).bind fun r2 =>
  (C 65 [.p (.int .i64 a_2),.p (.int .i64 b_2)] []).bind fun r3 =>
  some ([.p (.agg [.int .i64 ((r1.1.headD .undef).pv.toInt),.int .i64 ((r2.1.headD .undef).pv.toInt),.int .i64 ((r3.1.headD .undef).pv.toInt)])],[]) := by kernel_rfl
theorem e64b (C : CallF) (a_0 : Int) (a_1 : Int) (a_2 : Int) (b_0 : Int) (b_1 : Int) (b_2 : Int) (num_ : Int) (den_ : Int) : acallI tab C 64 [.p (.agg [.int .i64 a_0,.int .i64 a_1,.int .i64 a_2]),.p (.agg [.int .i64 b_0,.int .i64 b_1,.int .i64 b_2]),.p (.fn 108 [.ref [.int .i64 num_],.ref [.int .i64 den_]])] [] =
  (C 108 [.p (.int .i64 a_0),.p (.int .i64 b_0),.p (.ref [.int .i64 num_]),.p (.ref [.int .i64 den_])] []).bind fun r1 =>
  (C 108 [.p (.int .i64 a_1),.p (.int .i64 b_1),.p (.ref [.int .i64 num_]),.p (.ref [.int .i64 den_])] []).bind fun r2 =>
  (C 108 [.p (.int .i64 a_2),.p (.int .i64 b_2),.p (.ref [.int .i64 num_]),.p (.ref [.int .i64 den_])] []).bind fun r3 =>
  some ([.p (.agg [.int .i64 ((r1.1.headD .undef).pv.toInt),.int .i64 ((r2.1.headD .undef).pv.toInt),.int .i64 ((r3.1.headD .undef).pv.toInt)])],[]) := by kernel_rfl
theorem e65 (C : CallF) (x : Int) (y : Int) : acallI tab C 65 [.p (.int .i64 x),.p (.int .i64 y)] [] =
  some ([.p (.int .i64 (IntKind.i64.wrap (x - y)))],[]) := by kernel_rfl
theorem e66 (C : CallF) (a_0 : Int) (a_1 : Int) (a_2 : Int) (b_0 : Int) (b_1 : Int) (b_2 : Int) : acallI tab C 66 [.p (.agg [.int .i64 a_0,.int .i64 a_1,.int .i64 a_2]),.p (.agg [.int .i64 b_0,.int .i64 b_1,.int .i64 b_2])] [] =
  some ([.p (.int .i64 (IntKind.i64.wrap ((IntKind.i64.wrap ((IntKind.i64.wrap (a_0 * b_0))+(IntKind.i64.wrap (a_1 * b_1))))+(IntKind.i64.wrap (a_2 * b_2)))))],[]) := by kernel_rfl
def S67_1010p (s' : List PV) (t7' : Int) (t8' : Int) : St := ⟨(.p (.list true [.int .i64,.int .i64,.int .i64] s'))::(.p (.fn 44 []))::.undef::.undef::.undef::.undef::.undef::(.p (.int .i64 t7'))::(.p (.int .i64 t8'))::List.replicate 10 .undef,[]⟩
theorem e67p (C : CallF) (s : List PV) : acallI tab C 67 [.p (.list true [.int .i64,.int .i64,.int .i64] s),.p (.fn 44 [])] [] =
  L tab C 67 [] [.lp [1,0,1,0]] (S67_1010p s ((s.length : Nat) : Int) 0) := by kernel_rfl
theorem e67_1010p (C : CallF) (s' : List PV) (t7' : Int) (t8' : Int) : R tab C 67 [] [.lp [1,0,1,0]] (S67_1010p s' t7' t8') =
  bif (ltI t8' t7') then
    bif ((leI (0 : Int) t8') && (ltI t8' ((s'.length : Nat) : Int))) then (C 44 [.p (.agg [.int .i64 (((s'.getD t8'.toNat .nil).cell 0).toInt),.int .i64 (((s'.getD t8'.toNat .nil).cell 1).toInt),.int .i64 (((s'.getD t8'.toNat .nil).cell 2).toInt)])] []).bind fun r1 =>
    bif (r1.1.headD .undef).pv.toBool then
      some ([.p (.int .i64 t8')],[])
    else
      L tab C 67 [] [.lp [1,0,1,0]] (S67_1010p s' t7' (IntKind.i64.wrap (t8' + (1 : Int)))) else none
  else
    some ([.p (.int .i64 (-1))],[]) := by kernel_rfl
def S67_1010v (s' : List PV) (t7' : Int) (t8' : Int) : St := ⟨(.p (.list true [.int .i64,.int .i64,.int .i64] s'))::(.p (.fn 95 []))::.undef::.undef::.undef::.undef::.undef::(.p (.int .i64 t7'))::(.p (.int .i64 t8'))::List.replicate 10 .undef,[]⟩
theorem e67v (C : CallF) (s : List PV) : acallI tab C 67 [.p (.list true [.int .i64,.int .i64,.int .i64] s),.p (.fn 95 [])] [] =
  L tab C 67 [] [.lp [1,0,1,0]] (S67_1010v s ((s.length : Nat) : Int) 0) := by kernel_rfl
theorem e67_1010v (C : CallF) (s' : List PV) (t7' : Int) (t8' : Int) : R tab C 67 [] [.lp [1,0,1,0]] (S67_1010v s' t7' t8') =
  bif (ltI t8' t7') then
    bif ((leI (0 : Int) t8') && (ltI t8' ((s'.length : Nat) : Int))) then (C 95 [.p (.agg [.int .i64 (((s'.getD t8'.toNat .nil).cell 0).toInt),.int .i64 (((s'.getD t8'.toNat .nil).cell 1).toInt),.int .i64 (((s'.getD t8'.toNat .nil).cell 2).toInt)])] []).bind fun r1 =>
    bif (r1.1.headD .undef).pv.toBool then
      some ([.p (.int .i64 t8')],[])
    else
      L tab C 67 [] [.lp [1,0,1,0]] (S67_1010v s' t7' (IntKind.i64.wrap (t8' + (1 : Int)))) else none
  else
    some ([.p (.int .i64 (-1))],[]) := by kernel_rfl
def S68_1010 (most' : Int) (t7' : List PV) (t8' : Int) (t9' : Int) : St := ⟨(.p (.int .i64 most'))::.undef::.undef::.undef::.undef::.undef::.undef::(.p (.list false [.int .i64] t7'))::(.p (.int .i64 t8'))::(.p (.int .i64 t9'))::List.replicate 13 .undef,[]⟩
theorem e68 (C : CallF) (most : Int) (numbers : List PV) : acallI tab C 68 [.p (.int .i64 most),.p (.list false [.int .i64] numbers)] [] =
  L tab C 68 [] [.lp [1,0,1,0]] (S68_1010 most numbers ((numbers.length : Nat) : Int) 0) := by kernel_rfl
theorem e68_1010 (C : CallF) (most' : Int) (t7' : List PV) (t8' : Int) (t9' : Int) : R tab C 68 [] [.lp [1,0,1,0]] (S68_1010 most' t7' t8' t9') =
  bif (ltI t9' t8') then
    bif ((leI (0 : Int) t9') && (ltI t9' ((t7'.length : Nat) : Int))) then bif (ltI (((t7'.getD t9'.toNat .nil).cell 0).toInt) (IntKind.i64.wrap (0 - most'))) then
      some ([.p (.bool false)],[])
    else
      bif (gtI (((t7'.getD t9'.toNat .nil).cell 0).toInt) most') then
        some ([.p (.bool false)],[])
      else
        L tab C 68 [] [.lp [1,0,1,0]] (S68_1010 most' t7' t8' (IntKind.i64.wrap (t9' + (1 : Int)))) else none
  else
    some ([.p (.bool true)],[]) := by kernel_rfl
def S69_1010 (most' : Int) (i' : Int) (v_b0 : Int) (v_b1 : Int) (v_b2 : Int) : St := ⟨.undef::(.p (.int .i64 most'))::(.ptr 2 0 0)::.undef::.undef::(.p (.int .i64 i'))::List.replicate 17 .undef,[(2,.box [.p (.int .i64 v_b0),.p (.int .i64 v_b1),.p (.int .i64 v_b2)])]⟩
theorem e69 (C : CallF) (v_0 : Int) (v_1 : Int) (v_2 : Int) (most : Int) : acallI tab C 69 [.p (.agg [.int .i64 v_0,.int .i64 v_1,.int .i64 v_2]),.p (.int .i64 most)] [] =
  L tab C 69 [] [.lp [1,0,1,0]] (S69_1010 most 0 v_0 v_1 v_2) := by kernel_rfl
theorem e69_1010 (C : CallF) (most' : Int) (i' : Int) (v_b0 : Int) (v_b1 : Int) (v_b2 : Int) : R tab C 69 [] [.lp [1,0,1,0]] (S69_1010 most' i' v_b0 v_b1 v_b2) =
  bif (ltI i' (3 : Int)) then
    (C 58 [.p (.agg [.int .i64 v_b0,.int .i64 v_b1,.int .i64 v_b2]),.p (.int .i64 i')] []).bind fun r1 =>
    bif (gtI ((r1.1.headD .undef).pv.toInt) most') then
      some ([.p (.bool false)],[])
    else
      (C 58 [.p (.agg [.int .i64 v_b0,.int .i64 v_b1,.int .i64 v_b2]),.p (.int .i64 i')] []).bind fun r2 =>
      bif (ltI ((r2.1.headD .undef).pv.toInt) (IntKind.i64.wrap (0 - most'))) then
        some ([.p (.bool false)],[])
      else
        L tab C 69 [] [.lp [1,0,1,0]] (S69_1010 most' (IntKind.i64.wrap (i' + (1 : Int))) v_b0 v_b1 v_b2)
  else
    some ([.p (.bool true)],[]) := by kernel_rfl
theorem e70 (C : CallF) (s : List PV) : acallI tab C 70 [.p (.list true [.int .i64,.slice true [.int .i64,.int .i64,.int .i64],.int .i64,.int .i64,.int .i64,.int .i64] s),.p (.fn 71 [])] [] =
  (C 92 [.p (.list true [.int .i64,.slice true [.int .i64,.int .i64,.int .i64],.int .i64,.int .i64,.int .i64,.int .i64] s),.p (.fn 71 [])] []).bind fun r1 =>
  some ([.p (.bool (geI ((r1.1.headD .undef).pv.toInt) (0 : Int)))],[]) := by kernel_rfl
theorem e71 (C : CallF) (s_0 : Int) (s_1 : List PV) (s_2 : Int) (s_3 : Int) (s_4 : Int) (s_5 : Int) : acallI tab C 71 [.p (.agg [.int .i64 s_0,.list true [.int .i64,.int .i64,.int .i64] s_1,.int .i64 s_2,.int .i64 s_3,.int .i64 s_4,.int .i64 s_5])] [] =
  (C 72 [.p (.agg [.int .i64 s_0,.list true [.int .i64,.int .i64,.int .i64] s_1,.int .i64 s_2,.int .i64 s_3,.int .i64 s_4,.int .i64 s_5])] []).bind fun r1 =>
  some ([.p (.bool (!(r1.1.headD .undef).pv.toBool))],[]) := by kernel_rfl
theorem e72 (C : CallF) (s_0 : Int) (s_1 : List PV) (s_2 : Int) (s_3 : Int) (s_4 : Int) (s_5 : Int) : acallI tab C 72 [.p (.agg [.int .i64 s_0,.list true [.int .i64,.int .i64,.int .i64] s_1,.int .i64 s_2,.int .i64 s_3,.int .i64 s_4,.int .i64 s_5])] [] =
  (C 93 [.p (.int .i64 s_0)] []).bind fun r1 =>
  bif (!(r1.1.tail.headD .undef).pv.toBool) then
    some ([.p (.bool false)],[])
  else
    bif (ltI ((s_1.length : Nat) : Int) (((r1.1.headD .undef).pv.cell 1).toInt)) then
      some ([.p (.bool false)],[])
    else
      bif (gtI ((s_1.length : Nat) : Int) (((r1.1.headD .undef).pv.cell 2).toInt)) then
        some ([.p (.bool false)],[])
      else
        bif (s_5 != (0 : Int)) then
          bif (!((r1.1.headD .undef).pv.cell 5).toBool) then
            some ([.p (.bool false)],[])
          else
            bif (ltI s_5 (0 : Int)) then
              some ([.p (.bool false)],[])
            else
              bif (gtI s_5 (2 : Int)) then
                some ([.p (.bool false)],[])
              else
                (C 94 [.p (.bool (((r1.1.headD .undef).pv.cell 3).toBool)),.p (.int .i64 s_2),.p (.int .i64 500)] []).bind fun r2 =>
                bif (r2.1.headD .undef).pv.toBool then
                  (C 94 [.p (.bool (((r1.1.headD .undef).pv.cell 4).toBool)),.p (.int .i64 s_3),.p (.int .i64 50)] []).bind fun r3 =>
                  bif (r3.1.headD .undef).pv.toBool then
                    (C 94 [.p (.bool (((r1.1.headD .undef).pv.cell 4).toBool)),.p (.int .i64 s_4),.p (.int .i64 10000)] []).bind fun r4 =>
                    bif (r4.1.headD .undef).pv.toBool then
                      (C 43 [.p (.list true [.int .i64,.int .i64,.int .i64] s_1),.p (.fn 95 [])] []).bind fun r5 =>
                      some ([.p (.bool (!(r5.1.headD .undef).pv.toBool))],[])
                    else
                      some ([.p (.bool false)],[])
                  else
                    some ([.p (.bool false)],[])
                else
                  some ([.p (.bool false)],[])
        else
          (C 94 [.p (.bool (((r1.1.headD .undef).pv.cell 3).toBool)),.p (.int .i64 s_2),.p (.int .i64 500)] []).bind fun r6 =>
          bif (r6.1.headD .undef).pv.toBool then
            (C 94 [.p (.bool (((r1.1.headD .undef).pv.cell 4).toBool)),.p (.int .i64 s_3),.p (.int .i64 50)] []).bind fun r7 =>
            bif (r7.1.headD .undef).pv.toBool then
              (C 94 [.p (.bool (((r1.1.headD .undef).pv.cell 4).toBool)),.p (.int .i64 s_4),.p (.int .i64 10000)] []).bind fun r8 =>
              bif (r8.1.headD .undef).pv.toBool then
                (C 43 [.p (.list true [.int .i64,.int .i64,.int .i64] s_1),.p (.fn 95 [])] []).bind fun r9 =>
                some ([.p (.bool (!(r9.1.headD .undef).pv.toBool))],[])
              else
                some ([.p (.bool false)],[])
            else
              some ([.p (.bool false)],[])
          else
            some ([.p (.bool false)],[]) := by kernel_rfl
theorem e73 (C : CallF) (s : List PV) : acallI tab C 73 [.p (.list true [.int .i64,.int .i64,.int .i64] s)] [] =
  some ([.p (.fn 96 [.ref [.list true [.int .i64,.int .i64,.int .i64] s]])],[]) := by kernel_rfl
theorem e74 (C : CallF) (s_0 : Int) (s_1 : List PV) (s_2 : Int) (s_3 : Int) (s_4 : Int) (s_5 : Int) : acallI tab C 74 [.p (.agg [.int .i64 s_0,.list true [.int .i64,.int .i64,.int .i64] s_1,.int .i64 s_2,.int .i64 s_3,.int .i64 s_4,.int .i64 s_5])] [] =
  some ([.p (.fn 97 [.ref [.int .i64 s_0,.list true [.int .i64,.int .i64,.int .i64] s_1,.int .i64 s_2,.int .i64 s_3,.int .i64 s_4,.int .i64 s_5]])],[]) := by kernel_rfl
theorem e75 (C : CallF) (s_0 : Int) (s_1 : List PV) (s_2 : Int) (s_3 : Int) (s_4 : Int) (s_5 : Int) : acallI tab C 75 [.p (.agg [.int .i64 s_0,.list true [.int .i64,.int .i64,.int .i64] s_1,.int .i64 s_2,.int .i64 s_3,.int .i64 s_4,.int .i64 s_5])] [] =
  some ([.p (.fn 99 [.ref [.int .i64 s_0,.list true [.int .i64,.int .i64,.int .i64] s_1,.int .i64 s_2,.int .i64 s_3,.int .i64 s_4,.int .i64 s_5]])],[]) := by kernel_rfl
theorem e88 (C : CallF) (x : Int) (y : Int) : acallI tab C 88 [.p (.int .i64 x),.p (.int .i64 y)] [] =
  (C 106 [.p (.int .i64 x)] []).bind fun r1 =>
  (C 106 [.p (.int .i64 y)] []).bind fun r2 =>
  bif (r1.1.headD .undef).pv.toBool then
    bif (r2.1.headD .undef).pv.toBool then
      some ([.p (.int .i64 0)],[])
    else
      some ([.p (.int .i64 (-1))],[])
  else
    bif (r2.1.headD .undef).pv.toBool then
      some ([.p (.int .i64 1)],[])
    else
      bif (ltI x y) then
        some ([.p (.int .i64 (-1))],[])
      else
        bif (gtI x y) then
          some ([.p (.int .i64 1)],[])
        else
          some ([.p (.int .i64 0)],[]) := by kernel_rfl
theorem e89 (C : CallF) (n_ : Int) (low : Int) (high : Int) : acallI tab C 89 [.p (.int .i64 n_),.p (.int .i64 low),.p (.int .i64 high)] [] =
  bif (leI low n_) then
    some ([.p (.bool (leI n_ high))],[])
  else
    some ([.p (.bool false)],[]) := by kernel_rfl
def S90_11010 (many' : Int) (out_o : Nat) (out_l : Nat) (k' : Int) (a_b0 : Int) (a_b1 : Int) (a_b2 : Int) (b_b0 : Int) (b_b1 : Int) (b_b2 : Int) (out_b : List PV) : St := ⟨.undef::.undef::(.p (.int .i64 many'))::(.ptr 3 0 0)::(.ptr 4 0 0)::.undef::.undef::(.slice 7 3 out_o out_l)::(.p (.int .i64 k'))::List.replicate 14 .undef,[(3,.box [.p (.int .i64 a_b0),.p (.int .i64 a_b1),.p (.int .i64 a_b2)]),(4,.box [.p (.int .i64 b_b0),.p (.int .i64 b_b1),.p (.int .i64 b_b2)]),(7,.arr true [.int .i64,.int .i64,.int .i64] out_b)]⟩
theorem e90 (C : CallF) (a_0 : Int) (a_1 : Int) (a_2 : Int) (b_0 : Int) (b_1 : Int) (b_2 : Int) (many : Int) : acallI tab C 90 [.p (.agg [.int .i64 a_0,.int .i64 a_1,.int .i64 a_2]),.p (.agg [.int .i64 b_0,.int .i64 b_1,.int .i64 b_2]),.p (.int .i64 many)] [] =
  L tab C 90 [] [.lp [1,1,0,1,0]] (S90_11010 many 0 0 0 a_0 a_1 a_2 b_0 b_1 b_2 []) := by kernel_rfl
theorem e90_11010 (C : CallF) (many' : Int) (out_o : Nat) (out_l : Nat) (k' : Int) (a_b0 : Int) (a_b1 : Int) (a_b2 : Int) (b_b0 : Int) (b_b1 : Int) (b_b2 : Int) (out_b : List PV) : R tab C 90 [] [.lp [1,1,0,1,0]] (S90_11010 many' out_o out_l k' a_b0 a_b1 a_b2 b_b0 b_b1 b_b2 out_b) =
  bif (leI k' many') then
    (C 107 [.p (.agg [.int .i64 a_b0,.int .i64 a_b1,.int .i64 a_b2]),.p (.agg [.int .i64 b_b0,.int .i64 b_b1,.int .i64 b_b2]),.p (.int .i64 k'),.p (.int .i64 many')] []).bind fun r1 =>
    bif (leN (out_l + 1) 2147483648) then L tab C 90 [] [.lp [1,1,0,1,0]] (S90_11010 many' 0 (out_l + 1) (IntKind.i64.wrap (k' + (1 : Int))) a_b0 a_b1 a_b2 b_b0 b_b1 b_b2 (((out_b.drop out_o).take out_l) ++ ([.agg [.int .i64 (((r1.1.headD .undef).pv.cell 0).toInt),.int .i64 (((r1.1.headD .undef).pv.cell 1).toInt),.int .i64 (((r1.1.headD .undef).pv.cell 2).toInt)]] : List PV))) else none
  else
    some ([.fresh true [.int .i64,.int .i64,.int .i64] ((out_b.drop out_o).take out_l)],[]) := by kernel_rfl
theorem e91 (C : CallF) (n_ : Int) (r_ : Int) : acallI tab C 91 [.p (.int .i64 n_),.p (.int .i64 r_)] [] =
  bif (leI (IntKind.i64.wrap ((IntKind.i64.wrap (r_ * r_)) - r_)) n_) then
    some ([.p (.bool (leI n_ (IntKind.i64.wrap ((IntKind.i64.wrap (r_ * r_)) + r_))))],[])
  else
    some ([.p (.bool false)],[]) := by kernel_rfl
def S92_1010 (s' : List PV) (t7' : Int) (t8' : Int) : St := ⟨(.p (.list true [.int .i64,.slice true [.int .i64,.int .i64,.int .i64],.int .i64,.int .i64,.int .i64,.int .i64] s'))::(.p (.fn 71 []))::.undef::.undef::.undef::.undef::.undef::(.p (.int .i64 t7'))::(.p (.int .i64 t8'))::List.replicate 10 .undef,[]⟩
theorem e92 (C : CallF) (s : List PV) : acallI tab C 92 [.p (.list true [.int .i64,.slice true [.int .i64,.int .i64,.int .i64],.int .i64,.int .i64,.int .i64,.int .i64] s),.p (.fn 71 [])] [] =
  L tab C 92 [] [.lp [1,0,1,0]] (S92_1010 s ((s.length : Nat) : Int) 0) := by kernel_rfl
theorem e92_1010 (C : CallF) (s' : List PV) (t7' : Int) (t8' : Int) : R tab C 92 [] [.lp [1,0,1,0]] (S92_1010 s' t7' t8') =
  bif (ltI t8' t7') then
    bif ((leI (0 : Int) t8') && (ltI t8' ((s'.length : Nat) : Int))) then (C 71 [.p (.agg [.int .i64 (((s'.getD t8'.toNat .nil).cell 0).toInt),.list true [.int .i64,.int .i64,.int .i64] (((s'.getD t8'.toNat .nil).cell 1).toList),.int .i64 (((s'.getD t8'.toNat .nil).cell 2).toInt),.int .i64 (((s'.getD t8'.toNat .nil).cell 3).toInt),.int .i64 (((s'.getD t8'.toNat .nil).cell 4).toInt),.int .i64 (((s'.getD t8'.toNat .nil).cell 5).toInt)])] []).bind fun r1 =>
    bif (r1.1.headD .undef).pv.toBool then
      some ([.p (.int .i64 t8')],[])
    else
      L tab C 92 [] [.lp [1,0,1,0]] (S92_1010 s' t7' (IntKind.i64.wrap (t8' + (1 : Int)))) else none
  else
    some ([.p (.int .i64 (-1))],[]) := by kernel_rfl
theorem e93 (C : CallF) (kind : Int) : acallI tab C 93 [.p (.int .i64 kind)] [] =
  bif (kind == (1 : Int)) then
    some ([.p (.agg [.str ⟨#[100,111,116,115]⟩,.int .i64 1,.int .i64 200,.bool false,.bool false,.bool false]),.p (.bool true)],[])
  else
    bif (kind == (2 : Int)) then
      some ([.p (.agg [.str ⟨#[108,105,110,101]⟩,.int .i64 2,.int .i64 200,.bool true,.bool false,.bool false]),.p (.bool true)],[])
    else
      bif (kind == (3 : Int)) then
        some ([.p (.agg [.str ⟨#[108,111,111,112]⟩,.int .i64 3,.int .i64 200,.bool true,.bool false,.bool false]),.p (.bool true)],[])
      else
        bif (kind == (4 : Int)) then
          some ([.p (.agg [.str ⟨#[114,105,110,103]⟩,.int .i64 1,.int .i64 1,.bool false,.bool true,.bool true]),.p (.bool true)],[])
        else
          bif (kind == (5 : Int)) then
            some ([.p (.agg [.str ⟨#[115,112,104,101,114,101]⟩,.int .i64 1,.int .i64 1,.bool false,.bool true,.bool false]),.p (.bool true)],[])
          else
            some ([.p (.agg [.str ⟨#[]⟩,.int .i64 0,.int .i64 0,.bool false,.bool false,.bool false]),.p (.bool false)],[]) := by kernel_rfl
theorem e94 (C : CallF) (has : Bool) (n_ : Int) (most : Int) : acallI tab C 94 [.p (.bool has),.p (.int .i64 n_),.p (.int .i64 most)] [] =
  bif has then
    bif (geI n_ (1 : Int)) then
      some ([.p (.bool (leI n_ most))],[])
    else
      some ([.p (.bool false)],[])
  else
    some ([.p (.bool (n_ == (0 : Int)))],[]) := by kernel_rfl
theorem e95 (C : CallF) (v_0 : Int) (v_1 : Int) (v_2 : Int) : acallI tab C 95 [.p (.agg [.int .i64 v_0,.int .i64 v_1,.int .i64 v_2])] [] =
  (C 45 [.p (.agg [.int .i64 v_0,.int .i64 v_1,.int .i64 v_2])] []).bind fun r1 =>
  some ([.p (.bool (!(r1.1.headD .undef).pv.toBool))],[]) := by kernel_rfl
def S96_10 (t5' : List PV) (t6' : Int) (t7' : Int) (b100000_b : List PV) : St := ⟨(.yld)::.undef::.undef::.undef::.undef::(.p (.list true [.int .i64,.int .i64,.int .i64] t5'))::(.p (.int .i64 t6'))::(.p (.int .i64 t7'))::List.replicate 8 .undef,[(100000,.log true b100000_b)]⟩
theorem e96 (C : CallF) (c0 : List PV) : acallI tab C 96 [.yld,.p (.ref [.list true [.int .i64,.int .i64,.int .i64] c0])] [.log true []] =
  L tab C 96 [.log true []] [.lp [1,0]] (S96_10 c0 ((c0.length : Nat) : Int) 0 []) := by kernel_rfl
theorem e96_10 (C : CallF) (t5' : List PV) (t6' : Int) (t7' : Int) (b100000_b : List PV) : R tab C 96 [.log true []] [.lp [1,0]] (S96_10 t5' t6' t7' b100000_b) =
  bif (ltI t7' t6') then
    bif ((leI (0 : Int) t7') && (ltI t7' ((t5'.length : Nat) : Int))) then fork (some ([],[.log false (b100000_b ++ ([.agg [.agg [.int .i64 (((t5'.getD t7'.toNat .nil).cell 0).toInt),.int .i64 (((t5'.getD t7'.toNat .nil).cell 1).toInt),.int .i64 (((t5'.getD t7'.toNat .nil).cell 2).toInt)]]] : List PV))])) <|
    L tab C 96 [.log true []] [.lp [1,0]] (S96_10 t5' t6' (IntKind.i64.wrap (t7' + (1 : Int))) (b100000_b ++ ([.agg [.agg [.int .i64 (((t5'.getD t7'.toNat .nil).cell 0).toInt),.int .i64 (((t5'.getD t7'.toNat .nil).cell 1).toInt),.int .i64 (((t5'.getD t7'.toNat .nil).cell 2).toInt)]]] : List PV))) else none
  else
    some ([],[.log true b100000_b]) := by kernel_rfl
def S97_10 (t1_r0 : Int) (t1_r1 : List PV) (t1_r2 : Int) (t1_r3 : Int) (t1_r4 : Int) (t1_r5 : Int) (t10' : List PV) (t11' : Int) (t12' : Int) (b100000_b : List PV) : St := ⟨(.yld)::(.p (.ref [.int .i64 t1_r0,.list true [.int .i64,.int .i64,.int .i64] t1_r1,.int .i64 t1_r2,.int .i64 t1_r3,.int .i64 t1_r4,.int .i64 t1_r5]))::.undef::.undef::.undef::.undef::.undef::.undef::.undef::.undef::(.p (.list true [.int .i64,.int .i64,.int .i64] t10'))::(.p (.int .i64 t11'))::(.p (.int .i64 t12'))::List.replicate 46 .undef,[(100000,.log true b100000_b)]⟩
def S97_10_110011110 (t1_r0 : Int) (t1_r1 : List PV) (t1_r2 : Int) (t1_r3 : Int) (t1_r4 : Int) (t1_r5 : Int) (t10' : List PV) (t11' : Int) (t12' : Int) (t40' : Int) (t41' : Int) (b100000_b : List PV) (a_b0 : Int) (a_b1 : Int) (a_b2 : Int) (b_b0 : Int) (b_b1 : Int) (b_b2 : Int) : St := ⟨(.yld)::(.p (.ref [.int .i64 t1_r0,.list true [.int .i64,.int .i64,.int .i64] t1_r1,.int .i64 t1_r2,.int .i64 t1_r3,.int .i64 t1_r4,.int .i64 t1_r5]))::.undef::.undef::(.ptr 4 0 0)::(.ptr 5 0 0)::.undef::.undef::.undef::.undef::(.p (.list true [.int .i64,.int .i64,.int .i64] t10'))::(.p (.int .i64 t11'))::(.p (.int .i64 t12'))::.undef::.undef::.undef::.undef::.undef::.undef::.undef::.undef::.undef::.undef::.undef::.undef::.undef::.undef::.undef::.undef::.undef::.undef::.undef::.undef::.undef::.undef::.undef::.undef::.undef::.undef::.undef::(.p (.int .i64 t40'))::(.p (.int .i64 t41'))::List.replicate 17 .undef,[(100000,.log true b100000_b),(4,.box [.p (.int .i64 a_b0),.p (.int .i64 a_b1),.p (.int .i64 a_b2)]),(5,.box [.p (.int .i64 b_b0),.p (.int .i64 b_b1),.p (.int .i64 b_b2)])]⟩
def S97_10_110011110_s1 (t1_r0 : Int) (t1_r1 : List PV) (t1_r2 : Int) (t1_r3 : Int) (t1_r4 : Int) (t1_r5 : Int) (a_r0 : Int) (a_r1 : Int) (a_r2 : Int) (b_r0 : Int) (b_r1 : Int) (b_r2 : Int) (t10' : List PV) (t11' : Int) (t12' : Int) (t40' : Int) (t41' : Int) (b100000_b : List PV) : St := ⟨(.yld)::(.p (.ref [.int .i64 t1_r0,.list true [.int .i64,.int .i64,.int .i64] t1_r1,.int .i64 t1_r2,.int .i64 t1_r3,.int .i64 t1_r4,.int .i64 t1_r5]))::.undef::.undef::(.p (.ref [.int .i64 a_r0,.int .i64 a_r1,.int .i64 a_r2]))::(.p (.ref [.int .i64 b_r0,.int .i64 b_r1,.int .i64 b_r2]))::.undef::.undef::.undef::.undef::(.p (.list true [.int .i64,.int .i64,.int .i64] t10'))::(.p (.int .i64 t11'))::(.p (.int .i64 t12'))::.undef::.undef::.undef::.undef::.undef::.undef::.undef::.undef::.undef::.undef::.undef::.undef::.undef::.undef::.undef::.undef::.undef::.undef::.undef::.undef::.undef::.undef::.undef::.undef::.undef::.undef::.undef::(.p (.int .i64 t40'))::(.p (.int .i64 t41'))::List.replicate 17 .undef,[(100000,.log true b100000_b)]⟩
theorem e97 (C : CallF) (c0_0 : Int) (c0_1 : List PV) (c0_2 : Int) (c0_3 : Int) (c0_4 : Int) (c0_5 : Int) : acallI tab C 97 [.yld,.p (.ref [.int .i64 c0_0,.list true [.int .i64,.int .i64,.int .i64] c0_1,.int .i64 c0_2,.int .i64 c0_3,.int .i64 c0_4,.int .i64 c0_5])] [.log true []] =
  L tab C 97 [.log true []] [.lp [1,0]] (S97_10 c0_0 c0_1 c0_2 c0_3 c0_4 c0_5 c0_1 ((c0_1.length : Nat) : Int) 0 []) := by kernel_rfl
theorem e97_10 (C : CallF) (t1_r0 : Int) (t1_r1 : List PV) (t1_r2 : Int) (t1_r3 : Int) (t1_r4 : Int) (t1_r5 : Int) (t10' : List PV) (t11' : Int) (t12' : Int) (b100000_b : List PV) : R tab C 97 [.log true []] [.lp [1,0]] (S97_10 t1_r0 t1_r1 t1_r2 t1_r3 t1_r4 t1_r5 t10' t11' t12' b100000_b) =
  bif (ltI t12' t11') then
    bif ((leI (0 : Int) t12') && (ltI t12' ((t10'.length : Nat) : Int))) then bif (t1_r0 == (2 : Int)) then
      bif ((IntKind.i64.wrap (t12' + (1 : Int))) == ((t1_r1.length : Nat) : Int)) then
        some ([],[.log true b100000_b])
      else
        bif (!(eqI ((t1_r1.length : Nat) : Int) (0 : Int))) then bif ((leI (0 : Int) ((IntKind.i64.wrap (t12' + (1 : Int))).tmod ((t1_r1.length : Nat) : Int))) && (ltI ((IntKind.i64.wrap (t12' + (1 : Int))).tmod ((t1_r1.length : Nat) : Int)) ((t1_r1.length : Nat) : Int))) then L tab C 97 [.log true []] [.lp [1,0],.lp [1,1,0,0,1,1,1,1,0]] (S97_10_110011110 t1_r0 t1_r1 t1_r2 t1_r3 t1_r4 t1_r5 t10' t11' t12' (IntKind.i64.wrap (t1_r2 + (1 : Int))) 0 b100000_b (((t10'.getD t12'.toNat .nil).cell 0).toInt) (((t10'.getD t12'.toNat .nil).cell 1).toInt) (((t10'.getD t12'.toNat .nil).cell 2).toInt) (((t1_r1.getD (((IntKind.i64.wrap (t12' + (1 : Int))).tmod ((t1_r1.length : Nat) : Int)).toNat) .nil).cell 0).toInt) (((t1_r1.getD (((IntKind.i64.wrap (t12' + (1 : Int))).tmod ((t1_r1.length : Nat) : Int)).toNat) .nil).cell 1).toInt) (((t1_r1.getD (((IntKind.i64.wrap (t12' + (1 : Int))).tmod ((t1_r1.length : Nat) : Int)).toNat) .nil).cell 2).toInt)) else none else none
    else
      bif (!(eqI ((t1_r1.length : Nat) : Int) (0 : Int))) then bif ((leI (0 : Int) ((IntKind.i64.wrap (t12' + (1 : Int))).tmod ((t1_r1.length : Nat) : Int))) && (ltI ((IntKind.i64.wrap (t12' + (1 : Int))).tmod ((t1_r1.length : Nat) : Int)) ((t1_r1.length : Nat) : Int))) then L tab C 97 [.log true []] [.lp [1,0],.lp [1,1,0,0,1,1,1,1,0]] (S97_10_110011110 t1_r0 t1_r1 t1_r2 t1_r3 t1_r4 t1_r5 t10' t11' t12' (IntKind.i64.wrap (t1_r2 + (1 : Int))) 0 b100000_b (((t10'.getD t12'.toNat .nil).cell 0).toInt) (((t10'.getD t12'.toNat .nil).cell 1).toInt) (((t10'.getD t12'.toNat .nil).cell 2).toInt) (((t1_r1.getD (((IntKind.i64.wrap (t12' + (1 : Int))).tmod ((t1_r1.length : Nat) : Int)).toNat) .nil).cell 0).toInt) (((t1_r1.getD (((IntKind.i64.wrap (t12' + (1 : Int))).tmod ((t1_r1.length : Nat) : Int)).toNat) .nil).cell 1).toInt) (((t1_r1.getD (((IntKind.i64.wrap (t12' + (1 : Int))).tmod ((t1_r1.length : Nat) : Int)).toNat) .nil).cell 2).toInt)) else none else none else none
  else
    some ([],[.log true b100000_b]) := by kernel_rfl
theorem e97_10_110011110 (C : CallF) (t1_r0 : Int) (t1_r1 : List PV) (t1_r2 : Int) (t1_r3 : Int) (t1_r4 : Int) (t1_r5 : Int) (t10' : List PV) (t11' : Int) (t12' : Int) (t40' : Int) (t41' : Int) (b100000_b : List PV) (a_b0 : Int) (a_b1 : Int) (a_b2 : Int) (b_b0 : Int) (b_b1 : Int) (b_b2 : Int) : R tab C 97 [.log true []] [.lp [1,0],.lp [1,1,0,0,1,1,1,1,0]] (S97_10_110011110 t1_r0 t1_r1 t1_r2 t1_r3 t1_r4 t1_r5 t10' t11' t12' t40' t41' b100000_b a_b0 a_b1 a_b2 b_b0 b_b1 b_b2) =
  bif (ltI t41' t40') then
    (C 98 [.p (.agg [.int .i64 a_b0,.int .i64 a_b1,.int .i64 a_b2]),.p (.agg [.int .i64 b_b0,.int .i64 b_b1,.int .i64 b_b2]),.p (.int .i64 t41'),.p (.int .i64 t1_r2)] []).bind fun r1 =>
    fork (some ([],[.log false (b100000_b ++ ([.agg [.agg [.int .i64 (((r1.1.headD .undef).pv.cell 0).toInt),.int .i64 (((r1.1.headD .undef).pv.cell 1).toInt),.int .i64 (((r1.1.headD .undef).pv.cell 2).toInt)]]] : List PV))])) <|
    L tab C 97 [.log true []] [.lp [1,0],.lp [1,1,0,0,1,1,1,1,0]] (S97_10_110011110_s1 t1_r0 t1_r1 t1_r2 t1_r3 t1_r4 t1_r5 a_b0 a_b1 a_b2 b_b0 b_b1 b_b2 t10' t11' t12' t40' (IntKind.i64.wrap (t41' + (1 : Int))) (b100000_b ++ ([.agg [.agg [.int .i64 (((r1.1.headD .undef).pv.cell 0).toInt),.int .i64 (((r1.1.headD .undef).pv.cell 1).toInt),.int .i64 (((r1.1.headD .undef).pv.cell 2).toInt)]]] : List PV)))
  else
    L tab C 97 [.log true []] [.lp [1,0]] (S97_10 t1_r0 t1_r1 t1_r2 t1_r3 t1_r4 t1_r5 t10' t11' (IntKind.i64.wrap (t12' + (1 : Int))) b100000_b) := by kernel_rfl
theorem e97_10_110011110_s1 (C : CallF) (t1_r0 : Int) (t1_r1 : List PV) (t1_r2 : Int) (t1_r3 : Int) (t1_r4 : Int) (t1_r5 : Int) (a_r0 : Int) (a_r1 : Int) (a_r2 : Int) (b_r0 : Int) (b_r1 : Int) (b_r2 : Int) (t10' : List PV) (t11' : Int) (t12' : Int) (t40' : Int) (t41' : Int) (b100000_b : List PV) : R tab C 97 [.log true []] [.lp [1,0],.lp [1,1,0,0,1,1,1,1,0]] (S97_10_110011110_s1 t1_r0 t1_r1 t1_r2 t1_r3 t1_r4 t1_r5 a_r0 a_r1 a_r2 b_r0 b_r1 b_r2 t10' t11' t12' t40' t41' b100000_b) =
  bif (ltI t41' t40') then
    (C 98 [.p (.agg [.int .i64 a_r0,.int .i64 a_r1,.int .i64 a_r2]),.p (.agg [.int .i64 b_r0,.int .i64 b_r1,.int .i64 b_r2]),.p (.int .i64 t41'),.p (.int .i64 t1_r2)] []).bind fun r1 =>
    fork (some ([],[.log false (b100000_b ++ ([.agg [.agg [.int .i64 (((r1.1.headD .undef).pv.cell 0).toInt),.int .i64 (((r1.1.headD .undef).pv.cell 1).toInt),.int .i64 (((r1.1.headD .undef).pv.cell 2).toInt)]]] : List PV))])) <|
    L tab C 97 [.log true []] [.lp [1,0],.lp [1,1,0,0,1,1,1,1,0]] (S97_10_110011110_s1 t1_r0 t1_r1 t1_r2 t1_r3 t1_r4 t1_r5 a_r0 a_r1 a_r2 b_r0 b_r1 b_r2 t10' t11' t12' t40' (IntKind.i64.wrap (t41' + (1 : Int))) (b100000_b ++ ([.agg [.agg [.int .i64 (((r1.1.headD .undef).pv.cell 0).toInt),.int .i64 (((r1.1.headD .undef).pv.cell 1).toInt),.int .i64 (((r1.1.headD .undef).pv.cell 2).toInt)]]] : List PV)))
  else
    L tab C 97 [.log true []] [.lp [1,0]] (S97_10 t1_r0 t1_r1 t1_r2 t1_r3 t1_r4 t1_r5 t10' t11' (IntKind.i64.wrap (t12' + (1 : Int))) b100000_b) := by kernel_rfl
theorem e98 (C : CallF) (a_0 : Int) (a_1 : Int) (a_2 : Int) (b_0 : Int) (b_1 : Int) (b_2 : Int) (num : Int) (den : Int) : acallI tab C 98 [.p (.agg [.int .i64 a_0,.int .i64 a_1,.int .i64 a_2]),.p (.agg [.int .i64 b_0,.int .i64 b_1,.int .i64 b_2]),.p (.int .i64 num),.p (.int .i64 den)] [] =
  (C 63 [.p (.agg [.int .i64 a_0,.int .i64 a_1,.int .i64 a_2])] []).bind fun r1 =>
  bif (!(r1.1.headD .undef).pv.toBool) then
    some ([.p (.agg [.int .i64 0,.int .i64 0,.int .i64 0]),.p (.int .i64 2)],[])
  else
    (C 63 [.p (.agg [.int .i64 b_0,.int .i64 b_1,.int .i64 b_2])] []).bind fun r2 =>
    bif (!(r2.1.headD .undef).pv.toBool) then
      some ([.p (.agg [.int .i64 0,.int .i64 0,.int .i64 0]),.p (.int .i64 2)],[])
    else
      bif (ltI den (1 : Int)) then
        some ([.p (.agg [.int .i64 0,.int .i64 0,.int .i64 0]),.p (.int .i64 2)],[])
      else
        bif (gtI den (4294967296 : Int)) then
          some ([.p (.agg [.int .i64 0,.int .i64 0,.int .i64 0]),.p (.int .i64 2)],[])
        else
          bif (ltI num (0 : Int)) then
            some ([.p (.agg [.int .i64 0,.int .i64 0,.int .i64 0]),.p (.int .i64 2)],[])
          else
            bif (gtI num den) then
              some ([.p (.agg [.int .i64 0,.int .i64 0,.int .i64 0]),.p (.int .i64 2)],[])
            else
              (C 64 [.p (.agg [.int .i64 a_0,.int .i64 a_1,.int .i64 a_2]),.p (.agg [.int .i64 b_0,.int .i64 b_1,.int .i64 b_2]),.p (.fn 108 [.ref [.int .i64 num],.ref [.int .i64 den]])] []).bind fun r3 =>
              some ([.p (.agg [.int .i64 (((r3.1.headD .undef).pv.cell 0).toInt),.int .i64 (((r3.1.headD .undef).pv.cell 1).toInt),.int .i64 (((r3.1.headD .undef).pv.cell 2).toInt)]),.p (.int .i64 0)],[]) := by kernel_rfl
def S99_11110 (t1_r0 : Int) (t1_r1 : List PV) (t1_r2 : Int) (t1_r3 : Int) (t1_r4 : Int) (t1_r5 : Int) (r_' : Int) (depth' : Int) (i' : Int) (b100000_b : List PV) (c_b0 : Int) (c_b1 : Int) (c_b2 : Int) : St := ⟨(.yld)::(.p (.ref [.int .i64 t1_r0,.list true [.int .i64,.int .i64,.int .i64] t1_r1,.int .i64 t1_r2,.int .i64 t1_r3,.int .i64 t1_r4,.int .i64 t1_r5]))::.undef::(.p (.int .i64 r_'))::(.ptr 4 0 0)::(.p (.int .i64 depth'))::(.p (.int .i64 i'))::List.replicate 114 .undef,[(100000,.log true b100000_b),(4,.box [.p (.int .i64 c_b0),.p (.int .i64 c_b1),.p (.int .i64 c_b2)])]⟩
def S99_11110_10010 (t1_r0 : Int) (t1_r1 : List PV) (t1_r2 : Int) (t1_r3 : Int) (t1_r4 : Int) (t1_r5 : Int) (r_' : Int) (depth' : Int) (i' : Int) (j' : Int) (b100000_b : List PV) (c_b0 : Int) (c_b1 : Int) (c_b2 : Int) : St := ⟨(.yld)::(.p (.ref [.int .i64 t1_r0,.list true [.int .i64,.int .i64,.int .i64] t1_r1,.int .i64 t1_r2,.int .i64 t1_r3,.int .i64 t1_r4,.int .i64 t1_r5]))::.undef::(.p (.int .i64 r_'))::(.ptr 4 0 0)::(.p (.int .i64 depth'))::(.p (.int .i64 i'))::(.p (.int .i64 j'))::List.replicate 113 .undef,[(100000,.log true b100000_b),(4,.box [.p (.int .i64 c_b0),.p (.int .i64 c_b1),.p (.int .i64 c_b2)])]⟩
def S99_11110_10010_10010 (t1_r0 : Int) (t1_r1 : List PV) (t1_r2 : Int) (t1_r3 : Int) (t1_r4 : Int) (t1_r5 : Int) (r_' : Int) (depth' : Int) (i' : Int) (j' : Int) (k' : Int) (b100000_b : List PV) (c_b0 : Int) (c_b1 : Int) (c_b2 : Int) : St := ⟨(.yld)::(.p (.ref [.int .i64 t1_r0,.list true [.int .i64,.int .i64,.int .i64] t1_r1,.int .i64 t1_r2,.int .i64 t1_r3,.int .i64 t1_r4,.int .i64 t1_r5]))::.undef::(.p (.int .i64 r_'))::(.ptr 4 0 0)::(.p (.int .i64 depth'))::(.p (.int .i64 i'))::(.p (.int .i64 j'))::(.p (.int .i64 k'))::List.replicate 112 .undef,[(100000,.log true b100000_b),(4,.box [.p (.int .i64 c_b0),.p (.int .i64 c_b1),.p (.int .i64 c_b2)])]⟩
def S99_11110_10010_10010_s1 (t1_r0 : Int) (t1_r1 : List PV) (t1_r2 : Int) (t1_r3 : Int) (t1_r4 : Int) (t1_r5 : Int) (r_' : Int) (c_r0 : Int) (c_r1 : Int) (c_r2 : Int) (depth' : Int) (i' : Int) (j' : Int) (k' : Int) (b100000_b : List PV) : St := ⟨(.yld)::(.p (.ref [.int .i64 t1_r0,.list true [.int .i64,.int .i64,.int .i64] t1_r1,.int .i64 t1_r2,.int .i64 t1_r3,.int .i64 t1_r4,.int .i64 t1_r5]))::.undef::(.p (.int .i64 r_'))::(.p (.ref [.int .i64 c_r0,.int .i64 c_r1,.int .i64 c_r2]))::(.p (.int .i64 depth'))::(.p (.int .i64 i'))::(.p (.int .i64 j'))::(.p (.int .i64 k'))::List.replicate 112 .undef,[(100000,.log true b100000_b)]⟩
def S99_11110_10010_s1 (t1_r0 : Int) (t1_r1 : List PV) (t1_r2 : Int) (t1_r3 : Int) (t1_r4 : Int) (t1_r5 : Int) (r_' : Int) (c_r0 : Int) (c_r1 : Int) (c_r2 : Int) (depth' : Int) (i' : Int) (j' : Int) (b100000_b : List PV) : St := ⟨(.yld)::(.p (.ref [.int .i64 t1_r0,.list true [.int .i64,.int .i64,.int .i64] t1_r1,.int .i64 t1_r2,.int .i64 t1_r3,.int .i64 t1_r4,.int .i64 t1_r5]))::.undef::(.p (.int .i64 r_'))::(.p (.ref [.int .i64 c_r0,.int .i64 c_r1,.int .i64 c_r2]))::(.p (.int .i64 depth'))::(.p (.int .i64 i'))::(.p (.int .i64 j'))::List.replicate 113 .undef,[(100000,.log true b100000_b)]⟩
def S99_11110_s1 (t1_r0 : Int) (t1_r1 : List PV) (t1_r2 : Int) (t1_r3 : Int) (t1_r4 : Int) (t1_r5 : Int) (r_' : Int) (c_r0 : Int) (c_r1 : Int) (c_r2 : Int) (depth' : Int) (i' : Int) (b100000_b : List PV) : St := ⟨(.yld)::(.p (.ref [.int .i64 t1_r0,.list true [.int .i64,.int .i64,.int .i64] t1_r1,.int .i64 t1_r2,.int .i64 t1_r3,.int .i64 t1_r4,.int .i64 t1_r5]))::.undef::(.p (.int .i64 r_'))::(.p (.ref [.int .i64 c_r0,.int .i64 c_r1,.int .i64 c_r2]))::(.p (.int .i64 depth'))::(.p (.int .i64 i'))::List.replicate 114 .undef,[(100000,.log true b100000_b)]⟩
theorem e99 (C : CallF) (c0_0 : Int) (c0_1 : List PV) (c0_2 : Int) (c0_3 : Int) (c0_4 : Int) (c0_5 : Int) : acallI tab C 99 [.yld,.p (.ref [.int .i64 c0_0,.list true [.int .i64,.int .i64,.int .i64] c0_1,.int .i64 c0_2,.int .i64 c0_3,.int .i64 c0_4,.int .i64 c0_5])] [.log true []] =
  bif (ltI (0 : Int) ((c0_1.length : Nat) : Int)) then bif (c0_0 == (5 : Int)) then
    L tab C 99 [.log true []] [.lp [1,1,1,1,0]] (S99_11110 c0_0 c0_1 c0_2 c0_3 c0_4 c0_5 c0_3 (IntKind.i64.wrap (c0_3 + (1 : Int))) (IntKind.i64.wrap ((IntKind.i64.wrap (0 - c0_3)) - (1 : Int))) [] (((c0_1.getD 0 .nil).cell 0).toInt) (((c0_1.getD 0 .nil).cell 1).toInt) (((c0_1.getD 0 .nil).cell 2).toInt))
  else
    L tab C 99 [.log true []] [.lp [1,1,1,1,0]] (S99_11110 c0_0 c0_1 c0_2 c0_3 c0_4 c0_5 c0_3 0 (IntKind.i64.wrap ((IntKind.i64.wrap (0 - c0_3)) - (1 : Int))) [] (((c0_1.getD 0 .nil).cell 0).toInt) (((c0_1.getD 0 .nil).cell 1).toInt) (((c0_1.getD 0 .nil).cell 2).toInt)) else none := by kernel_rfl
theorem e99_11110 (C : CallF) (t1_r0 : Int) (t1_r1 : List PV) (t1_r2 : Int) (t1_r3 : Int) (t1_r4 : Int) (t1_r5 : Int) (r_' : Int) (depth' : Int) (i' : Int) (b100000_b : List PV) (c_b0 : Int) (c_b1 : Int) (c_b2 : Int) : R tab C 99 [.log true []] [.lp [1,1,1,1,0]] (S99_11110 t1_r0 t1_r1 t1_r2 t1_r3 t1_r4 t1_r5 r_' depth' i' b100000_b c_b0 c_b1 c_b2) =
  bif (leI i' (IntKind.i64.wrap (r_' + (1 : Int)))) then
    L tab C 99 [.log true []] [.lp [1,1,1,1,0],.lp [1,0,0,1,0]] (S99_11110_10010 t1_r0 t1_r1 t1_r2 t1_r3 t1_r4 t1_r5 r_' depth' i' (IntKind.i64.wrap ((IntKind.i64.wrap (0 - r_')) - (1 : Int))) b100000_b c_b0 c_b1 c_b2)
  else
    some ([],[.log true b100000_b]) := by kernel_rfl
theorem e99_11110_10010 (C : CallF) (t1_r0 : Int) (t1_r1 : List PV) (t1_r2 : Int) (t1_r3 : Int) (t1_r4 : Int) (t1_r5 : Int) (r_' : Int) (depth' : Int) (i' : Int) (j' : Int) (b100000_b : List PV) (c_b0 : Int) (c_b1 : Int) (c_b2 : Int) : R tab C 99 [.log true []] [.lp [1,1,1,1,0],.lp [1,0,0,1,0]] (S99_11110_10010 t1_r0 t1_r1 t1_r2 t1_r3 t1_r4 t1_r5 r_' depth' i' j' b100000_b c_b0 c_b1 c_b2) =
  bif (leI j' (IntKind.i64.wrap (r_' + (1 : Int)))) then
    L tab C 99 [.log true []] [.lp [1,1,1,1,0],.lp [1,0,0,1,0],.lp [1,0,0,1,0]] (S99_11110_10010_10010 t1_r0 t1_r1 t1_r2 t1_r3 t1_r4 t1_r5 r_' depth' i' j' (IntKind.i64.wrap (0 - depth')) b100000_b c_b0 c_b1 c_b2)
  else
    L tab C 99 [.log true []] [.lp [1,1,1,1,0]] (S99_11110 t1_r0 t1_r1 t1_r2 t1_r3 t1_r4 t1_r5 r_' depth' (IntKind.i64.wrap (i' + (1 : Int))) b100000_b c_b0 c_b1 c_b2) := by kernel_rfl
theorem e99_11110_10010_10010 (C : CallF) (t1_r0 : Int) (t1_r1 : List PV) (t1_r2 : Int) (t1_r3 : Int) (t1_r4 : Int) (t1_r5 : Int) (r_' : Int) (depth' : Int) (i' : Int) (j' : Int) (k' : Int) (b100000_b : List PV) (c_b0 : Int) (c_b1 : Int) (c_b2 : Int) : R tab C 99 [.log true []] [.lp [1,1,1,1,0],.lp [1,0,0,1,0],.lp [1,0,0,1,0]] (S99_11110_10010_10010 t1_r0 t1_r1 t1_r2 t1_r3 t1_r4 t1_r5 r_' depth' i' j' k' b100000_b c_b0 c_b1 c_b2) =
  bif (leI k' depth') then
    bif (ltI (IntKind.i64.wrap ((IntKind.i64.wrap ((IntKind.i64.wrap (i' * i'))+(IntKind.i64.wrap (j' * j'))))+(IntKind.i64.wrap (k' * k')))) (IntKind.i64.wrap ((IntKind.i64.wrap (r_' * r_')) - r_'))) then
      L tab C 99 [.log true []] [.lp [1,1,1,1,0],.lp [1,0,0,1,0],.lp [1,0,0,1,0]] (S99_11110_10010_10010 t1_r0 t1_r1 t1_r2 t1_r3 t1_r4 t1_r5 r_' depth' i' j' (IntKind.i64.wrap (k' + (1 : Int))) b100000_b c_b0 c_b1 c_b2)
    else
      bif (gtI (IntKind.i64.wrap ((IntKind.i64.wrap ((IntKind.i64.wrap (i' * i'))+(IntKind.i64.wrap (j' * j'))))+(IntKind.i64.wrap (k' * k')))) (IntKind.i64.wrap ((IntKind.i64.wrap (r_' * r_')) + r_'))) then
        L tab C 99 [.log true []] [.lp [1,1,1,1,0],.lp [1,0,0,1,0],.lp [1,0,0,1,0]] (S99_11110_10010_10010 t1_r0 t1_r1 t1_r2 t1_r3 t1_r4 t1_r5 r_' depth' i' j' (IntKind.i64.wrap (k' + (1 : Int))) b100000_b c_b0 c_b1 c_b2)
      else
        bif (t1_r5 == (1 : Int)) then
          fork (some ([],[.log false (b100000_b ++ ([.agg [.agg [.int .i64 (IntKind.i64.wrap (c_b0 + (IntKind.i64.wrap (i' * t1_r4)))),.int .i64 (IntKind.i64.wrap (c_b1 + (0 : Int))),.int .i64 (IntKind.i64.wrap (c_b2 + (IntKind.i64.wrap (j' * t1_r4))))]]] : List PV))])) <|
          L tab C 99 [.log true []] [.lp [1,1,1,1,0],.lp [1,0,0,1,0],.lp [1,0,0,1,0]] (S99_11110_10010_10010_s1 t1_r0 t1_r1 t1_r2 t1_r3 t1_r4 t1_r5 r_' c_b0 c_b1 c_b2 depth' i' j' (IntKind.i64.wrap (k' + (1 : Int))) (b100000_b ++ ([.agg [.agg [.int .i64 (IntKind.i64.wrap (c_b0 + (IntKind.i64.wrap (i' * t1_r4)))),.int .i64 (IntKind.i64.wrap (c_b1 + (0 : Int))),.int .i64 (IntKind.i64.wrap (c_b2 + (IntKind.i64.wrap (j' * t1_r4))))]]] : List PV)))
        else
          bif (t1_r5 == (2 : Int)) then
            fork (some ([],[.log false (b100000_b ++ ([.agg [.agg [.int .i64 (IntKind.i64.wrap (c_b0 + (0 : Int))),.int .i64 (IntKind.i64.wrap (c_b1 + (IntKind.i64.wrap (i' * t1_r4)))),.int .i64 (IntKind.i64.wrap (c_b2 + (IntKind.i64.wrap (j' * t1_r4))))]]] : List PV))])) <|
            L tab C 99 [.log true []] [.lp [1,1,1,1,0],.lp [1,0,0,1,0],.lp [1,0,0,1,0]] (S99_11110_10010_10010_s1 t1_r0 t1_r1 t1_r2 t1_r3 t1_r4 t1_r5 r_' c_b0 c_b1 c_b2 depth' i' j' (IntKind.i64.wrap (k' + (1 : Int))) (b100000_b ++ ([.agg [.agg [.int .i64 (IntKind.i64.wrap (c_b0 + (0 : Int))),.int .i64 (IntKind.i64.wrap (c_b1 + (IntKind.i64.wrap (i' * t1_r4)))),.int .i64 (IntKind.i64.wrap (c_b2 + (IntKind.i64.wrap (j' * t1_r4))))]]] : List PV)))
          else
            fork (some ([],[.log false (b100000_b ++ ([.agg [.agg [.int .i64 (IntKind.i64.wrap (c_b0 + (IntKind.i64.wrap (i' * t1_r4)))),.int .i64 (IntKind.i64.wrap (c_b1 + (IntKind.i64.wrap (j' * t1_r4)))),.int .i64 (IntKind.i64.wrap (c_b2 + (IntKind.i64.wrap (k' * t1_r4))))]]] : List PV))])) <|
            L tab C 99 [.log true []] [.lp [1,1,1,1,0],.lp [1,0,0,1,0],.lp [1,0,0,1,0]] (S99_11110_10010_10010_s1 t1_r0 t1_r1 t1_r2 t1_r3 t1_r4 t1_r5 r_' c_b0 c_b1 c_b2 depth' i' j' (IntKind.i64.wrap (k' + (1 : Int))) (b100000_b ++ ([.agg [.agg [.int .i64 (IntKind.i64.wrap (c_b0 + (IntKind.i64.wrap (i' * t1_r4)))),.int .i64 (IntKind.i64.wrap (c_b1 + (IntKind.i64.wrap (j' * t1_r4)))),.int .i64 (IntKind.i64.wrap (c_b2 + (IntKind.i64.wrap (k' * t1_r4))))]]] : List PV)))
  else
    L tab C 99 [.log true []] [.lp [1,1,1,1,0],.lp [1,0,0,1,0]] (S99_11110_10010 t1_r0 t1_r1 t1_r2 t1_r3 t1_r4 t1_r5 r_' depth' i' (IntKind.i64.wrap (j' + (1 : Int))) b100000_b c_b0 c_b1 c_b2) := by kernel_rfl
theorem e99_11110_10010_10010_s1 (C : CallF) (t1_r0 : Int) (t1_r1 : List PV) (t1_r2 : Int) (t1_r3 : Int) (t1_r4 : Int) (t1_r5 : Int) (r_' : Int) (c_r0 : Int) (c_r1 : Int) (c_r2 : Int) (depth' : Int) (i' : Int) (j' : Int) (k' : Int) (b100000_b : List PV) : R tab C 99 [.log true []] [.lp [1,1,1,1,0],.lp [1,0,0,1,0],.lp [1,0,0,1,0]] (S99_11110_10010_10010_s1 t1_r0 t1_r1 t1_r2 t1_r3 t1_r4 t1_r5 r_' c_r0 c_r1 c_r2 depth' i' j' k' b100000_b) =
  bif (leI k' depth') then
    bif (ltI (IntKind.i64.wrap ((IntKind.i64.wrap ((IntKind.i64.wrap (i' * i'))+(IntKind.i64.wrap (j' * j'))))+(IntKind.i64.wrap (k' * k')))) (IntKind.i64.wrap ((IntKind.i64.wrap (r_' * r_')) - r_'))) then
      L tab C 99 [.log true []] [.lp [1,1,1,1,0],.lp [1,0,0,1,0],.lp [1,0,0,1,0]] (S99_11110_10010_10010_s1 t1_r0 t1_r1 t1_r2 t1_r3 t1_r4 t1_r5 r_' c_r0 c_r1 c_r2 depth' i' j' (IntKind.i64.wrap (k' + (1 : Int))) b100000_b)
    else
      bif (gtI (IntKind.i64.wrap ((IntKind.i64.wrap ((IntKind.i64.wrap (i' * i'))+(IntKind.i64.wrap (j' * j'))))+(IntKind.i64.wrap (k' * k')))) (IntKind.i64.wrap ((IntKind.i64.wrap (r_' * r_')) + r_'))) then
        L tab C 99 [.log true []] [.lp [1,1,1,1,0],.lp [1,0,0,1,0],.lp [1,0,0,1,0]] (S99_11110_10010_10010_s1 t1_r0 t1_r1 t1_r2 t1_r3 t1_r4 t1_r5 r_' c_r0 c_r1 c_r2 depth' i' j' (IntKind.i64.wrap (k' + (1 : Int))) b100000_b)
      else
        bif (t1_r5 == (1 : Int)) then
          fork (some ([],[.log false (b100000_b ++ ([.agg [.agg [.int .i64 (IntKind.i64.wrap (c_r0 + (IntKind.i64.wrap (i' * t1_r4)))),.int .i64 (IntKind.i64.wrap (c_r1 + (0 : Int))),.int .i64 (IntKind.i64.wrap (c_r2 + (IntKind.i64.wrap (j' * t1_r4))))]]] : List PV))])) <|
          L tab C 99 [.log true []] [.lp [1,1,1,1,0],.lp [1,0,0,1,0],.lp [1,0,0,1,0]] (S99_11110_10010_10010_s1 t1_r0 t1_r1 t1_r2 t1_r3 t1_r4 t1_r5 r_' c_r0 c_r1 c_r2 depth' i' j' (IntKind.i64.wrap (k' + (1 : Int))) (b100000_b ++ ([.agg [.agg [.int .i64 (IntKind.i64.wrap (c_r0 + (IntKind.i64.wrap (i' * t1_r4)))),.int .i64 (IntKind.i64.wrap (c_r1 + (0 : Int))),.int .i64 (IntKind.i64.wrap (c_r2 + (IntKind.i64.wrap (j' * t1_r4))))]]] : List PV)))
        else
          bif (t1_r5 == (2 : Int)) then
            fork (some ([],[.log false (b100000_b ++ ([.agg [.agg [.int .i64 (IntKind.i64.wrap (c_r0 + (0 : Int))),.int .i64 (IntKind.i64.wrap (c_r1 + (IntKind.i64.wrap (i' * t1_r4)))),.int .i64 (IntKind.i64.wrap (c_r2 + (IntKind.i64.wrap (j' * t1_r4))))]]] : List PV))])) <|
            L tab C 99 [.log true []] [.lp [1,1,1,1,0],.lp [1,0,0,1,0],.lp [1,0,0,1,0]] (S99_11110_10010_10010_s1 t1_r0 t1_r1 t1_r2 t1_r3 t1_r4 t1_r5 r_' c_r0 c_r1 c_r2 depth' i' j' (IntKind.i64.wrap (k' + (1 : Int))) (b100000_b ++ ([.agg [.agg [.int .i64 (IntKind.i64.wrap (c_r0 + (0 : Int))),.int .i64 (IntKind.i64.wrap (c_r1 + (IntKind.i64.wrap (i' * t1_r4)))),.int .i64 (IntKind.i64.wrap (c_r2 + (IntKind.i64.wrap (j' * t1_r4))))]]] : List PV)))
          else
            fork (some ([],[.log false (b100000_b ++ ([.agg [.agg [.int .i64 (IntKind.i64.wrap (c_r0 + (IntKind.i64.wrap (i' * t1_r4)))),.int .i64 (IntKind.i64.wrap (c_r1 + (IntKind.i64.wrap (j' * t1_r4)))),.int .i64 (IntKind.i64.wrap (c_r2 + (IntKind.i64.wrap (k' * t1_r4))))]]] : List PV))])) <|
            L tab C 99 [.log true []] [.lp [1,1,1,1,0],.lp [1,0,0,1,0],.lp [1,0,0,1,0]] (S99_11110_10010_10010_s1 t1_r0 t1_r1 t1_r2 t1_r3 t1_r4 t1_r5 r_' c_r0 c_r1 c_r2 depth' i' j' (IntKind.i64.wrap (k' + (1 : Int))) (b100000_b ++ ([.agg [.agg [.int .i64 (IntKind.i64.wrap (c_r0 + (IntKind.i64.wrap (i' * t1_r4)))),.int .i64 (IntKind.i64.wrap (c_r1 + (IntKind.i64.wrap (j' * t1_r4)))),.int .i64 (IntKind.i64.wrap (c_r2 + (IntKind.i64.wrap (k' * t1_r4))))]]] : List PV)))
  else
    L tab C 99 [.log true []] [.lp [1,1,1,1,0],.lp [1,0,0,1,0]] (S99_11110_10010_s1 t1_r0 t1_r1 t1_r2 t1_r3 t1_r4 t1_r5 r_' c_r0 c_r1 c_r2 depth' i' (IntKind.i64.wrap (j' + (1 : Int))) b100000_b) := by kernel_rfl
theorem e99_11110_10010_s1 (C : CallF) (t1_r0 : Int) (t1_r1 : List PV) (t1_r2 : Int) (t1_r3 : Int) (t1_r4 : Int) (t1_r5 : Int) (r_' : Int) (c_r0 : Int) (c_r1 : Int) (c_r2 : Int) (depth' : Int) (i' : Int) (j' : Int) (b100000_b : List PV) : R tab C 99 [.log true []] [.lp [1,1,1,1,0],.lp [1,0,0,1,0]] (S99_11110_10010_s1 t1_r0 t1_r1 t1_r2 t1_r3 t1_r4 t1_r5 r_' c_r0 c_r1 c_r2 depth' i' j' b100000_b) =
  bif (leI j' (IntKind.i64.wrap (r_' + (1 : Int)))) then
    L tab C 99 [.log true []] [.lp [1,1,1,1,0],.lp [1,0,0,1,0],.lp [1,0,0,1,0]] (S99_11110_10010_10010_s1 t1_r0 t1_r1 t1_r2 t1_r3 t1_r4 t1_r5 r_' c_r0 c_r1 c_r2 depth' i' j' (IntKind.i64.wrap (0 - depth')) b100000_b)
  else
    L tab C 99 [.log true []] [.lp [1,1,1,1,0]] (S99_11110_s1 t1_r0 t1_r1 t1_r2 t1_r3 t1_r4 t1_r5 r_' c_r0 c_r1 c_r2 depth' (IntKind.i64.wrap (i' + (1 : Int))) b100000_b) := by kernel_rfl
theorem e99_11110_s1 (C : CallF) (t1_r0 : Int) (t1_r1 : List PV) (t1_r2 : Int) (t1_r3 : Int) (t1_r4 : Int) (t1_r5 : Int) (r_' : Int) (c_r0 : Int) (c_r1 : Int) (c_r2 : Int) (depth' : Int) (i' : Int) (b100000_b : List PV) : R tab C 99 [.log true []] [.lp [1,1,1,1,0]] (S99_11110_s1 t1_r0 t1_r1 t1_r2 t1_r3 t1_r4 t1_r5 r_' c_r0 c_r1 c_r2 depth' i' b100000_b) =
  bif (leI i' (IntKind.i64.wrap (r_' + (1 : Int)))) then
    L tab C 99 [.log true []] [.lp [1,1,1,1,0],.lp [1,0,0,1,0]] (S99_11110_10010_s1 t1_r0 t1_r1 t1_r2 t1_r3 t1_r4 t1_r5 r_' c_r0 c_r1 c_r2 depth' i' (IntKind.i64.wrap ((IntKind.i64.wrap (0 - r_')) - (1 : Int))) b100000_b)
  else
    some ([],[.log true b100000_b]) := by kernel_rfl
theorem e106 (C : CallF) (x : Int) : acallI tab C 106 [.p (.int .i64 x)] [] =
  some ([.p (.bool (x != x))],[]) := by kernel_rfl
theorem e107 (C : CallF) (a_0 : Int) (a_1 : Int) (a_2 : Int) (b_0 : Int) (b_1 : Int) (b_2 : Int) (num : Int) (den : Int) : acallI tab C 107 [.p (.agg [.int .i64 a_0,.int .i64 a_1,.int .i64 a_2]),.p (.agg [.int .i64 b_0,.int .i64 b_1,.int .i64 b_2]),.p (.int .i64 num),.p (.int .i64 den)] [] =
  (C 40 [.p (.agg [.int .i64 b_0,.int .i64 b_1,.int .i64 b_2]),.p (.agg [.int .i64 a_0,.int .i64 a_1,.int .i64 a_2])] []).bind fun r1 =>
  (C 110 [.p (.int .i64 (IntKind.i64.wrap (((r1.1.headD .undef).pv.cell 0).toInt * num))),.p (.int .i64 den)] []).bind fun r2 =>
  (C 110 [.p (.int .i64 (IntKind.i64.wrap (((r1.1.headD .undef).pv.cell 1).toInt * num))),.p (.int .i64 den)] []).bind fun r3 =>
  (C 110 [.p (.int .i64 (IntKind.i64.wrap (((r1.1.headD .undef).pv.cell 2).toInt * num))),.p (.int .i64 den)] []).bind fun r4 =>
  (C 59 [.p (.agg [.int .i64 a_0,.int .i64 a_1,.int .i64 a_2]),.p (.agg [.int .i64 ((r2.1.headD .undef).pv.toInt),.int .i64 ((r3.1.headD .undef).pv.toInt),.int .i64 ((r4.1.headD .undef).pv.toInt)])] []).bind fun r5 =>
  some ([.p (.agg [.int .i64 (((r5.1.headD .undef).pv.cell 0).toInt),.int .i64 (((r5.1.headD .undef).pv.cell 1).toInt),.int .i64 (((r5.1.headD .undef).pv.cell 2).toInt)])],[]) := by kernel_rfl
theorem e108 (C : CallF) (x : Int) (y : Int) (c0 : Int) (c1 : Int) : acallI tab C 108 [.p (.int .i64 x),.p (.int .i64 y),.p (.ref [.int .i64 c0]),.p (.ref [.int .i64 c1])] [] =
  bif (!(eqI (IntKind.i64.wrap ((2 : Int) * c1)) (0 : Int))) then bif (!(eqI (IntKind.i64.wrap ((2 : Int) * c1)) (0 : Int))) then bif (ltI ((IntKind.i64.wrap ((IntKind.i64.wrap ((IntKind.i64.wrap ((2 : Int) * (IntKind.i64.wrap (y - x)))) * c0)) + c1)).tmod (IntKind.i64.wrap ((2 : Int) * c1))) (0 : Int)) then
    some ([.p (.int .i64 (IntKind.i64.wrap (x + (IntKind.i64.wrap ((IntKind.i64.wrap ((IntKind.i64.wrap ((IntKind.i64.wrap ((IntKind.i64.wrap ((2 : Int) * (IntKind.i64.wrap (y - x)))) * c0)) + c1)).tdiv (IntKind.i64.wrap ((2 : Int) * c1)))) - (1 : Int))))))],[])
  else
    some ([.p (.int .i64 (IntKind.i64.wrap (x + (IntKind.i64.wrap ((IntKind.i64.wrap ((IntKind.i64.wrap ((IntKind.i64.wrap ((2 : Int) * (IntKind.i64.wrap (y - x)))) * c0)) + c1)).tdiv (IntKind.i64.wrap ((2 : Int) * c1)))))))],[]) else none else none := by kernel_rfl
def S110_1100 (n_' : Int) (d' : Int) (q' : Int) : St := ⟨(.p (.int .i64 n_'))::(.p (.int .i64 d'))::.undef::.undef::.undef::(.p (.int .i64 q'))::List.replicate 25 .undef,[]⟩
def S110_11100 (n_' : Int) (d' : Int) (q' : Int) : St := ⟨(.p (.int .i64 n_'))::(.p (.int .i64 d'))::.undef::.undef::.undef::(.p (.int .i64 q'))::List.replicate 25 .undef,[]⟩
theorem e110 (C : CallF) (n_ : Int) (d : Int) : acallI tab C 110 [.p (.int .i64 n_),.p (.int .i64 d)] [] =
  bif (!(eqI d (0 : Int))) then L tab C 110 [] [.lp [1,1,0,0]] (S110_1100 n_ d (IntKind.i64.wrap (n_.tdiv d))) else none := by kernel_rfl
theorem e110_1100 (C : CallF) (n_' : Int) (d' : Int) (q' : Int) : R tab C 110 [] [.lp [1,1,0,0]] (S110_1100 n_' d' q') =
  bif (geI (IntKind.i64.wrap ((2 : Int) * (IntKind.i64.wrap (n_' - (IntKind.i64.wrap (q' * d')))))) d') then
    L tab C 110 [] [.lp [1,1,0,0]] (S110_1100 n_' d' (IntKind.i64.wrap (q' + (1 : Int))))
  else
    L tab C 110 [] [.lp [1,1,1,0,0]] (S110_11100 n_' d' q') := by kernel_rfl
theorem e110_11100 (C : CallF) (n_' : Int) (d' : Int) (q' : Int) : R tab C 110 [] [.lp [1,1,1,0,0]] (S110_11100 n_' d' q') =
  bif (ltI (IntKind.i64.wrap ((2 : Int) * (IntKind.i64.wrap (n_' - (IntKind.i64.wrap (q' * d')))))) (IntKind.i64.wrap (0 - d'))) then
    L tab C 110 [] [.lp [1,1,1,0,0]] (S110_11100 n_' d' (IntKind.i64.wrap (q' - (1 : Int))))
  else
    some ([.p (.int .i64 q')],[]) := by kernel_rfl
end Go.Skm.Sct
