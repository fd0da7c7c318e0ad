/-
  What the machine does in each function of this program, and in each round of each loop; no condition.
-/
import Derived.Test.YtipkmkmngcjdbaaSkmE
import Derived.Test.YtipkmkmngcjdbaaTab
import Derived.KernelRfl
set_option maxRecDepth 100000
namespace Go.Skm.Sct
open Go Go.Skm
def S3_111111010 (l' : List PV) (own_o : Nat) (own_l : Nat) (a_o : Nat) (a_l : Nat) (t39' : Int) (t40' : Int) (own_b : List PV) (a_b : List PV) : St := ⟨(.p (.list true [.int .i64, .int .i64, .int .i64] l')) :: .undef :: .undef :: .undef :: .undef :: (.slice 5 3 own_o own_l) :: (.slice 6 3 a_o a_l) :: .undef :: .undef :: .undef :: .undef :: .undef :: .undef :: .undef :: .undef :: .undef :: .undef :: .undef :: .undef :: .undef :: .undef :: .undef :: .undef :: .undef :: .undef :: .undef :: .undef :: .undef :: .undef :: .undef :: .undef :: .undef :: .undef :: .undef :: .undef :: .undef :: .undef :: .undef :: .undef :: (.p (.int .i64 t39')) :: (.p (.int .i64 t40')) :: List.replicate 17 .undef, [(5, .arr true [.int .i64, .int .i64, .int .i64] own_b), (6, .arr true [.int .i64, .int .i64, .int .i64] a_b)]⟩
theorem e3 (C : CallF) (l : List PV) (many : Int) : acallI tab C 3 [.p (.list true [.int .i64, .int .i64, .int .i64] l), .p (.int .i64 many)] [] =
  bif (gtI ((l.length : Nat) : Int) (25 : Int)) then
    (C 9 [] []).bind fun r1 =>
    some ([.p (.bool ((r1.1.headD .undef).pv.toBool))], [])
  else
    bif (leN l.length 2147483648) then (C 10 [.p (.list true [.int .i64, .int .i64, .int .i64] ((l.drop 0).take l.length)), .p (.int .i64 many)] []).bind fun r2 =>
    (C 11 [.p (.list true [.int .i64, .int .i64, .int .i64] l), .p (.int .i64 many)] []).bind fun r3 =>
    (C 12 [.p (.list true [.int .i64, .int .i64, .int .i64] ((((r2.1.headD .undef).freshList).drop 0).take ((r2.1.headD .undef).freshList.length))), .p (.list true [.int .i64, .int .i64, .int .i64] ((((r3.1.headD .undef).freshList).drop 0).take ((r3.1.headD .undef).freshList.length)))] []).bind fun r4 =>
    bif (!(r4.1.headD .undef).pv.toBool) then
      some ([.p (.bool false)], [])
    else
      bif ((r2.1.tail.headD .undef).pv.toInt != (r3.1.tail.headD .undef).pv.toInt) then
        some ([.p (.bool false)], [])
      else
        L tab C 3 [] [.lp [1, 1, 1, 1, 1, 1, 0, 1, 0]] (S3_111111010 l 0 l.length 0 ((r2.1.headD .undef).freshList.length) (((r2.1.headD .undef).freshList.length : Nat) : Int) 0 l ((r2.1.headD .undef).freshList)) else none := by kernel_rfl
def S8_1111111010 (l' : List PV) (many' : Int) (a_o : Nat) (a_l : Nat) (c' : Int) (t92' : Int) (t93' : Int) (a_b : List PV) : St := ⟨(.p (.list true [.int .i64, .int .i64, .int .i64] l')) :: (.p (.int .i64 many')) :: .undef :: .undef :: .undef :: .undef :: .undef :: (.slice 7 3 a_o a_l) :: .undef :: .undef :: .undef :: (.p (.int .i64 c')) :: .undef :: .undef :: .undef :: .undef :: .undef :: .undef :: .undef :: .undef :: .undef :: .undef :: .undef :: .undef :: .undef :: .undef :: .undef :: .undef :: .undef :: .undef :: .undef :: .undef :: .undef :: .undef :: .undef :: .undef :: .undef :: .undef :: .undef :: .undef :: .undef :: .undef :: .undef :: .undef :: .undef :: .undef :: .undef :: .undef :: .undef :: .undef :: .undef :: .undef :: .undef :: .undef :: .undef :: .undef :: .undef :: .undef :: .undef :: .undef :: .undef :: .undef :: .undef :: .undef :: .undef :: .undef :: .undef :: .undef :: .undef :: .undef :: .undef :: .undef :: .undef :: .undef :: .undef :: .undef :: .undef :: .undef :: .undef :: .undef :: .undef :: .undef :: .undef :: .undef :: .undef :: .undef :: .undef :: .undef :: .undef :: .undef :: .undef :: .undef :: (.p (.int .i64 t92')) :: (.p (.int .i64 t93')) :: List.replicate 65 .undef, [(7, .arr true [.int .i64, .int .i64, .int .i64] a_b)]⟩
def S8_1111111010_110011010 (l' : List PV) (many' : Int) (a_o : Nat) (a_l : Nat) (c' : Int) (i' : Int) (in_' : Bool) (t92' : Int) (t93' : Int) (t96' : List PV) (t97' : Int) (t98' : Int) (a_b : List PV) : St := ⟨(.p (.list true [.int .i64, .int .i64, .int .i64] l')) :: (.p (.int .i64 many')) :: .undef :: .undef :: .undef :: .undef :: .undef :: (.slice 7 3 a_o a_l) :: .undef :: .undef :: .undef :: (.p (.int .i64 c')) :: (.p (.int .i64 i')) :: (.p (.bool in_')) :: .undef :: .undef :: .undef :: .undef :: .undef :: .undef :: .undef :: .undef :: .undef :: .undef :: .undef :: .undef :: .undef :: .undef :: .undef :: .undef :: .undef :: .undef :: .undef :: .undef :: .undef :: .undef :: .undef :: .undef :: .undef :: .undef :: .undef :: .undef :: .undef :: .undef :: .undef :: .undef :: .undef :: .undef :: .undef :: .undef :: .undef :: .undef :: .undef :: .undef :: .undef :: .undef :: .undef :: .undef :: .undef :: .undef :: .undef :: .undef :: .undef :: .undef :: .undef :: .undef :: .undef :: .undef :: .undef :: .undef :: .undef :: .undef :: .undef :: .undef :: .undef :: .undef :: .undef :: .undef :: .undef :: .undef :: .undef :: .undef :: .undef :: .undef :: .undef :: .undef :: .undef :: .undef :: .undef :: .undef :: .undef :: .undef :: (.p (.int .i64 t92')) :: (.p (.int .i64 t93')) :: .undef :: .undef :: (.p (.list true [.int .i64, .int .i64, .int .i64] t96')) :: (.p (.int .i64 t97')) :: (.p (.int .i64 t98')) :: List.replicate 60 .undef, [(7, .arr true [.int .i64, .int .i64, .int .i64] a_b)]⟩
def S8_1111111010_1100111110 (l' : List PV) (many' : Int) (a_o : Nat) (a_l : Nat) (c' : Int) (i' : Int) (k' : Int) (t92' : Int) (t93' : Int) (a_b : List PV) : St := ⟨(.p (.list true [.int .i64, .int .i64, .int .i64] l')) :: (.p (.int .i64 many')) :: .undef :: .undef :: .undef :: .undef :: .undef :: (.slice 7 3 a_o a_l) :: .undef :: .undef :: .undef :: (.p (.int .i64 c')) :: (.p (.int .i64 i')) :: .undef :: .undef :: .undef :: (.p (.int .i64 k')) :: .undef :: .undef :: .undef :: .undef :: .undef :: .undef :: .undef :: .undef :: .undef :: .undef :: .undef :: .undef :: .undef :: .undef :: .undef :: .undef :: .undef :: .undef :: .undef :: .undef :: .undef :: .undef :: .undef :: .undef :: .undef :: .undef :: .undef :: .undef :: .undef :: .undef :: .undef :: .undef :: .undef :: .undef :: .undef :: .undef :: .undef :: .undef :: .undef :: .undef :: .undef :: .undef :: .undef :: .undef :: .undef :: .undef :: .undef :: .undef :: .undef :: .undef :: .undef :: .undef :: .undef :: .undef :: .undef :: .undef :: .undef :: .undef :: .undef :: .undef :: .undef :: .undef :: .undef :: .undef :: .undef :: .undef :: .undef :: .undef :: .undef :: .undef :: .undef :: .undef :: .undef :: .undef :: .undef :: (.p (.int .i64 t92')) :: (.p (.int .i64 t93')) :: List.replicate 65 .undef, [(7, .arr true [.int .i64, .int .i64, .int .i64] a_b)]⟩
theorem e8 (C : CallF) (l : List PV) (many : Int) (fewer : Int) : acallI tab C 8 [.p (.list true [.int .i64, .int .i64, .int .i64] l), .p (.int .i64 many), .p (.int .i64 fewer)] [] =
  bif (gtI ((l.length : Nat) : Int) (9 : Int)) then
    (C 9 [] []).bind fun r1 =>
    some ([.p (.bool ((r1.1.headD .undef).pv.toBool))], [])
  else
    (C 20 [.p (.list true [.int .i64, .int .i64, .int .i64] l)] []).bind fun r2 =>
    bif (!(r2.1.headD .undef).pv.toBool) then
      (C 9 [] []).bind fun r3 =>
      some ([.p (.bool ((r3.1.headD .undef).pv.toBool))], [])
    else
      bif (ltI many (1 : Int)) then
        (C 9 [] []).bind fun r4 =>
        some ([.p (.bool ((r4.1.headD .undef).pv.toBool))], [])
      else
        bif (gtI many ((l.length : Nat) : Int)) then
          (C 9 [] []).bind fun r5 =>
          some ([.p (.bool ((r5.1.headD .undef).pv.toBool))], [])
        else
          bif (ltI fewer (0 : Int)) then
            (C 9 [] []).bind fun r6 =>
            some ([.p (.bool ((r6.1.headD .undef).pv.toBool))], [])
          else
            bif (gtI fewer many) then
              (C 9 [] []).bind fun r7 =>
              some ([.p (.bool ((r7.1.headD .undef).pv.toBool))], [])
            else
              (C 10 [.p (.list true [.int .i64, .int .i64, .int .i64] l), .p (.int .i64 many)] []).bind fun r8 =>
              (C 10 [.p (.list true [.int .i64, .int .i64, .int .i64] l), .p (.int .i64 fewer)] []).bind fun r9 =>
              bif ((r8.1.tail.headD .undef).pv.toInt != (0 : Int)) then
                some ([.p (.bool false)], [])
              else
                bif ((r9.1.tail.headD .undef).pv.toInt != (0 : Int)) then
                  some ([.p (.bool false)], [])
                else
                  bif ((((r8.1.headD .undef).freshList.length : Nat) : Int) != many) then
                    some ([.p (.bool false)], [])
                  else
                    bif ((((r9.1.headD .undef).freshList.length : Nat) : Int) != fewer) then
                      some ([.p (.bool false)], [])
                    else
                      bif ((leI (0 : Int) fewer) && ((leI fewer (((r8.1.headD .undef).freshList.length : Nat) : Int)) && (leI (((r8.1.headD .undef).freshList.length : Nat) : Int) (((r8.1.headD .undef).freshList.length : Nat) : Int)))) then (C 12 [.p (.list true [.int .i64, .int .i64, .int .i64] ((((r9.1.headD .undef).freshList).drop 0).take ((r9.1.headD .undef).freshList.length))), .p (.list true [.int .i64, .int .i64, .int .i64] ((((r8.1.headD .undef).freshList).drop 0).take ((fewer - (0 : Int)).toNat)))] []).bind fun r10 =>
                      bif (!(r10.1.headD .undef).pv.toBool) then
                        some ([.p (.bool false)], [])
                      else
                        (C 15 [.p (.list true [.int .i64, .int .i64, .int .i64] l), .p (.list true [.int .i64, .int .i64, .int .i64] ((((r8.1.headD .undef).freshList).drop 0).take ((r8.1.headD .undef).freshList.length)))] []).bind fun r11 =>
                        bif ((r11.1.tail.headD .undef).pv.toInt != (0 : Int)) then
                          some ([.p (.bool false)], [])
                        else
                          L tab C 8 [] [.lp [1, 1, 1, 1, 1, 1, 1, 0, 1, 0]] (S8_1111111010 l many 0 ((r8.1.headD .undef).freshList.length) ((r11.1.headD .undef).pv.toInt) (((r8.1.headD .undef).freshList.length : Nat) : Int) 0 ((r8.1.headD .undef).freshList)) else none := by kernel_rfl
theorem e8_1111111010 (C : CallF) (l' : List PV) (many' : Int) (a_o : Nat) (a_l : Nat) (c' : Int) (t92' : Int) (t93' : Int) (a_b : List PV) : R tab C 8 [] [.lp [1, 1, 1, 1, 1, 1, 1, 0, 1, 0]] (S8_1111111010 l' many' a_o a_l c' t92' t93' a_b) =
  bif (ltI t93' t92') then
    L tab C 8 [] [.lp [1, 1, 1, 1, 1, 1, 1, 0, 1, 0], .lp [1, 1, 0, 0, 1, 1, 0, 1, 0]] (S8_1111111010_110011010 l' many' a_o a_l c' t93' false t92' t93' l' ((l'.length : Nat) : Int) 0 a_b)
  else
    bif (many' == ((l'.length : Nat) : Int)) then
      bif (c' != (0 : Int)) then
        some ([.p (.bool false)], [])
      else
        (C 22 [.p (.list true [.int .i64, .int .i64, .int .i64] l'), .p (.int .i64 many'), .p (.int .i64 0), .p (.list true [.int .i64, .int .i64, .int .i64] [])] []).bind fun r1 =>
        bif (leI c' (IntKind.i64.wrap ((4 : Int) * (r1.1.headD .undef).pv.toInt))) then
          (C 9 [] []).bind fun r2 =>
          some ([.p (.bool ((r2.1.headD .undef).pv.toBool))], [])
        else
          some ([.p (.bool false)], [])
    else
      (C 22 [.p (.list true [.int .i64, .int .i64, .int .i64] l'), .p (.int .i64 many'), .p (.int .i64 0), .p (.list true [.int .i64, .int .i64, .int .i64] [])] []).bind fun r3 =>
      bif (leI c' (IntKind.i64.wrap ((4 : Int) * (r3.1.headD .undef).pv.toInt))) then
        (C 9 [] []).bind fun r4 =>
        some ([.p (.bool ((r4.1.headD .undef).pv.toBool))], [])
      else
        some ([.p (.bool false)], []) := by kernel_rfl
theorem e8_1111111010_110011010 (C : CallF) (l' : List PV) (many' : Int) (a_o : Nat) (a_l : Nat) (c' : Int) (i' : Int) (in_' : Bool) (t92' : Int) (t93' : Int) (t96' : List PV) (t97' : Int) (t98' : Int) (a_b : List PV) : R tab C 8 [] [.lp [1, 1, 1, 1, 1, 1, 1, 0, 1, 0], .lp [1, 1, 0, 0, 1, 1, 0, 1, 0]] (S8_1111111010_110011010 l' many' a_o a_l c' i' in_' t92' t93' t96' t97' t98' a_b) =
  bif (ltI t98' t97') then
    bif ((leI (0 : Int) t98') && (ltI t98' ((t96'.length : Nat) : Int))) then bif in_' then
      L tab C 8 [] [.lp [1, 1, 1, 1, 1, 1, 1, 0, 1, 0], .lp [1, 1, 0, 0, 1, 1, 0, 1, 0]] (S8_1111111010_110011010 l' many' a_o a_l c' i' true t92' t93' t96' t97' (IntKind.i64.wrap (t98' + (1 : Int))) a_b)
    else
      bif ((leI (0 : Int) i') && (ltI i' (a_l : Int))) then L tab C 8 [] [.lp [1, 1, 1, 1, 1, 1, 1, 0, 1, 0], .lp [1, 1, 0, 0, 1, 1, 0, 1, 0]] (S8_1111111010_110011010 l' many' a_o a_l c' i' ((((t96'.getD t98'.toNat .nil).cell 0).toInt == ((a_b.getD (a_o + i'.toNat) .nil).cell 0).toInt) && ((((t96'.getD t98'.toNat .nil).cell 1).toInt == ((a_b.getD (a_o + i'.toNat) .nil).cell 1).toInt) && ((((t96'.getD t98'.toNat .nil).cell 2).toInt == ((a_b.getD (a_o + i'.toNat) .nil).cell 2).toInt) && true))) t92' t93' t96' t97' (IntKind.i64.wrap (t98' + (1 : Int))) a_b) else none else none
  else
    bif (!in_') then
      some ([.p (.bool false)], [])
    else
      L tab C 8 [] [.lp [1, 1, 1, 1, 1, 1, 1, 0, 1, 0], .lp [1, 1, 0, 0, 1, 1, 1, 1, 1, 0]] (S8_1111111010_1100111110 l' many' a_o a_l c' i' 0 t92' t93' a_b) := by kernel_rfl
theorem e8_1111111010_1100111110 (C : CallF) (l' : List PV) (many' : Int) (a_o : Nat) (a_l : Nat) (c' : Int) (i' : Int) (k' : Int) (t92' : Int) (t93' : Int) (a_b : List PV) : R tab C 8 [] [.lp [1, 1, 1, 1, 1, 1, 1, 0, 1, 0], .lp [1, 1, 0, 0, 1, 1, 1, 1, 1, 0]] (S8_1111111010_1100111110 l' many' a_o a_l c' i' k' t92' t93' a_b) =
  bif (ltI k' i') then
    bif ((leI (0 : Int) i') && (ltI i' (a_l : Int))) then bif ((leI (0 : Int) k') && (ltI k' (a_l : Int))) then bif ((((a_b.getD (a_o + i'.toNat) .nil).cell 0).toInt == ((a_b.getD (a_o + k'.toNat) .nil).cell 0).toInt) && ((((a_b.getD (a_o + i'.toNat) .nil).cell 1).toInt == ((a_b.getD (a_o + k'.toNat) .nil).cell 1).toInt) && ((((a_b.getD (a_o + i'.toNat) .nil).cell 2).toInt == ((a_b.getD (a_o + k'.toNat) .nil).cell 2).toInt) && true))) then
      some ([.p (.bool false)], [])
    else
      bif ((leI (0 : Int) i') && (ltI i' (a_l : Int))) then bif ((leI (0 : Int) k') && (ltI k' (a_l : Int))) then (C 21 [.p (.agg [.int .i64 (((a_b.getD (a_o + i'.toNat) .nil).cell 0).toInt), .int .i64 (((a_b.getD (a_o + i'.toNat) .nil).cell 1).toInt), .int .i64 (((a_b.getD (a_o + i'.toNat) .nil).cell 2).toInt)]), .p (.agg [.int .i64 (((a_b.getD (a_o + k'.toNat) .nil).cell 0).toInt), .int .i64 (((a_b.getD (a_o + k'.toNat) .nil).cell 1).toInt), .int .i64 (((a_b.getD (a_o + k'.toNat) .nil).cell 2).toInt)])] []).bind fun r1 =>
      bif (ltI ((r1.1.headD .undef).pv.toInt) c') then
        some ([.p (.bool false)], [])
      else
        L tab C 8 [] [.lp [1, 1, 1, 1, 1, 1, 1, 0, 1, 0], .lp [1, 1, 0, 0, 1, 1, 1, 1, 1, 0]] (S8_1111111010_1100111110 l' many' a_o a_l c' i' (IntKind.i64.wrap (k' + (1 : Int))) t92' t93' a_b) else none else none else none else none
  else
    L tab C 8 [] [.lp [1, 1, 1, 1, 1, 1, 1, 0, 1, 0]] (S8_1111111010 l' many' a_o a_l c' t92' (IntKind.i64.wrap (t93' + (1 : Int))) a_b) := by kernel_rfl
theorem e9 (C : CallF)  : acallI tab C 9 [] [] =
  (C 23 [.p (.list false [.int .i64] [.int .i64 0, .int .i64 1, .int .i64 4, .int .i64 10])] []).bind fun r1 =>
  (C 10 [.p (.list true [.int .i64, .int .i64, .int .i64] ((((r1.1.headD .undef).freshList).drop 0).take ((r1.1.headD .undef).freshList.length))), .p (.int .i64 4)] []).bind fun r2 =>
  (C 10 [.p (.list true [.int .i64, .int .i64, .int .i64] ((((r1.1.headD .undef).freshList).drop 0).take ((r1.1.headD .undef).freshList.length))), .p (.int .i64 2)] []).bind fun r3 =>
  (C 10 [.p (.list true [.int .i64, .int .i64, .int .i64] ((((r1.1.headD .undef).freshList).drop 0).take ((r1.1.headD .undef).freshList.length))), .p (.int .i64 5)] []).bind fun r4 =>
  (C 19 [.p (.int .i64 (-1)), .p (.int .i64 0), .p (.int .i64 0)] []).bind fun r5 =>
  (C 19 [.p (.int .i64 0), .p (.int .i64 0), .p (.int .i64 0)] []).bind fun r6 =>
  (C 19 [.p (.int .i64 1), .p (.int .i64 0), .p (.int .i64 0)] []).bind fun r7 =>
  (C 19 [.p (.int .i64 1), .p (.int .i64 1), .p (.int .i64 0)] []).bind fun r8 =>
  (C 10 [.p (.list true [.int .i64, .int .i64, .int .i64] [.agg [.int .i64 (((r5.1.headD .undef).pv.cell 0).toInt), .int .i64 (((r5.1.headD .undef).pv.cell 1).toInt), .int .i64 (((r5.1.headD .undef).pv.cell 2).toInt)], .agg [.int .i64 (((r6.1.headD .undef).pv.cell 0).toInt), .int .i64 (((r6.1.headD .undef).pv.cell 1).toInt), .int .i64 (((r6.1.headD .undef).pv.cell 2).toInt)], .agg [.int .i64 (((r7.1.headD .undef).pv.cell 0).toInt), .int .i64 (((r7.1.headD .undef).pv.cell 1).toInt), .int .i64 (((r7.1.headD .undef).pv.cell 2).toInt)], .agg [.int .i64 (((r8.1.headD .undef).pv.cell 0).toInt), .int .i64 (((r8.1.headD .undef).pv.cell 1).toInt), .int .i64 (((r8.1.headD .undef).pv.cell 2).toInt)]]), .p (.int .i64 3)] []).bind fun r9 =>
  (C 23 [.p (.list false [.int .i64] [.int .i64 0, .int .i64 10, .int .i64 4, .int .i64 1])] []).bind fun r10 =>
  (C 12 [.p (.list true [.int .i64, .int .i64, .int .i64] ((((r2.1.headD .undef).freshList).drop 0).take ((r2.1.headD .undef).freshList.length))), .p (.list true [.int .i64, .int .i64, .int .i64] ((((r10.1.headD .undef).freshList).drop 0).take ((r10.1.headD .undef).freshList.length)))] []).bind fun r11 =>
  bif (!(r11.1.headD .undef).pv.toBool) then
    some ([.p (.bool false)], [])
  else
    bif ((r2.1.tail.headD .undef).pv.toInt != (0 : Int)) then
      some ([.p (.bool false)], [])
    else
      (C 23 [.p (.list false [.int .i64] [.int .i64 0, .int .i64 10])] []).bind fun r12 =>
      (C 12 [.p (.list true [.int .i64, .int .i64, .int .i64] ((((r3.1.headD .undef).freshList).drop 0).take ((r3.1.headD .undef).freshList.length))), .p (.list true [.int .i64, .int .i64, .int .i64] ((((r12.1.headD .undef).freshList).drop 0).take ((r12.1.headD .undef).freshList.length)))] []).bind fun r13 =>
      bif (!(r13.1.headD .undef).pv.toBool) then
        some ([.p (.bool false)], [])
      else
        bif ((r3.1.tail.headD .undef).pv.toInt != (0 : Int)) then
          some ([.p (.bool false)], [])
        else
          bif ((r4.1.tail.headD .undef).pv.toInt != (3 : Int)) then
            some ([.p (.bool false)], [])
          else
            (C 19 [.p (.int .i64 (-1)), .p (.int .i64 0), .p (.int .i64 0)] []).bind fun r14 =>
            (C 19 [.p (.int .i64 1), .p (.int .i64 1), .p (.int .i64 0)] []).bind fun r15 =>
            (C 19 [.p (.int .i64 0), .p (.int .i64 0), .p (.int .i64 0)] []).bind fun r16 =>
            (C 12 [.p (.list true [.int .i64, .int .i64, .int .i64] ((((r9.1.headD .undef).freshList).drop 0).take ((r9.1.headD .undef).freshList.length))), .p (.list true [.int .i64, .int .i64, .int .i64] [.agg [.int .i64 (((r14.1.headD .undef).pv.cell 0).toInt), .int .i64 (((r14.1.headD .undef).pv.cell 1).toInt), .int .i64 (((r14.1.headD .undef).pv.cell 2).toInt)], .agg [.int .i64 (((r15.1.headD .undef).pv.cell 0).toInt), .int .i64 (((r15.1.headD .undef).pv.cell 1).toInt), .int .i64 (((r15.1.headD .undef).pv.cell 2).toInt)], .agg [.int .i64 (((r16.1.headD .undef).pv.cell 0).toInt), .int .i64 (((r16.1.headD .undef).pv.cell 1).toInt), .int .i64 (((r16.1.headD .undef).pv.cell 2).toInt)]])] []).bind fun r17 =>
            bif (!(r17.1.headD .undef).pv.toBool) then
              some ([.p (.bool false)], [])
            else
              bif ((r9.1.tail.headD .undef).pv.toInt != (0 : Int)) then
                some ([.p (.bool false)], [])
              else
                (C 23 [.p (.list false [.int .i64] [.int .i64 0, .int .i64 1, .int .i64 4])] []).bind fun r18 =>
                (C 13 [.p (.list true [.int .i64, .int .i64, .int .i64] ((((r18.1.headD .undef).freshList).drop 0).take ((r18.1.headD .undef).freshList.length)))] []).bind fun r19 =>
                (C 23 [.p (.list false [.int .i64] [.int .i64 0])] []).bind fun r20 =>
                (C 13 [.p (.list true [.int .i64, .int .i64, .int .i64] ((((r20.1.headD .undef).freshList).drop 0).take ((r20.1.headD .undef).freshList.length)))] []).bind fun r21 =>
                (C 23 [.p (.list false [.int .i64] [.int .i64 0, .int .i64 1, .int .i64 4])] []).bind fun r22 =>
                (C 23 [.p (.list false [.int .i64] [.int .i64 0, .int .i64 4])] []).bind fun r23 =>
                (C 15 [.p (.list true [.int .i64, .int .i64, .int .i64] ((((r22.1.headD .undef).freshList).drop 0).take ((r22.1.headD .undef).freshList.length))), .p (.list true [.int .i64, .int .i64, .int .i64] ((((r23.1.headD .undef).freshList).drop 0).take ((r23.1.headD .undef).freshList.length)))] []).bind fun r24 =>
                (C 23 [.p (.list false [.int .i64] [.int .i64 0])] []).bind fun r25 =>
                (C 15 [.p (.list true [.int .i64, .int .i64, .int .i64] []), .p (.list true [.int .i64, .int .i64, .int .i64] ((((r25.1.headD .undef).freshList).drop 0).take ((r25.1.headD .undef).freshList.length)))] []).bind fun r26 =>
                (C 23 [.p (.list false [.int .i64] [.int .i64 0])] []).bind fun r27 =>
                (C 15 [.p (.list true [.int .i64, .int .i64, .int .i64] ((((r27.1.headD .undef).freshList).drop 0).take ((r27.1.headD .undef).freshList.length))), .p (.list true [.int .i64, .int .i64, .int .i64] [])] []).bind fun r28 =>
                (C 23 [.p (.list false [.int .i64] [.int .i64 0, .int .i64 8])] []).bind fun r29 =>
                (C 17 [.p (.list true [.int .i64, .slice true [.int .i64, .int .i64, .int .i64], .int .i64, .int .i64, .int .i64, .int .i64] [.agg [.int .i64 2, .list true [.int .i64, .int .i64, .int .i64] ((((r29.1.headD .undef).freshList).drop 0).take ((r29.1.headD .undef).freshList.length)), .int .i64 4, .int .i64 0, .int .i64 0, .int .i64 0]]), .p (.int .i64 3)] []).bind fun r30 =>
                bif ((r19.1.headD .undef).pv.toInt == (1 : Int)) then
                  bif ((r19.1.tail.headD .undef).pv.toInt == (0 : Int)) then
                    bif ((r21.1.tail.headD .undef).pv.toInt == (9 : Int)) then
                      bif ((r24.1.headD .undef).pv.toInt == (1 : Int)) then
                        bif ((r24.1.tail.headD .undef).pv.toInt == (0 : Int)) then
                          bif ((r26.1.headD .undef).pv.toInt == (0 : Int)) then
                            bif ((r26.1.tail.headD .undef).pv.toInt == (0 : Int)) then
                              bif ((r28.1.tail.headD .undef).pv.toInt == (9 : Int)) then
                                (C 23 [.p (.list false [.int .i64] [.int .i64 0, .int .i64 4, .int .i64 8])] []).bind fun r31 =>
                                (C 12 [.p (.list true [.int .i64, .int .i64, .int .i64] ((((r30.1.headD .undef).freshList).drop 0).take ((r30.1.headD .undef).freshList.length))), .p (.list true [.int .i64, .int .i64, .int .i64] ((((r31.1.headD .undef).freshList).drop 0).take ((r31.1.headD .undef).freshList.length)))] []).bind fun r32 =>
                                bif (r32.1.headD .undef).pv.toBool then
                                  some ([.p (.bool ((r30.1.tail.headD .undef).pv.toInt == (0 : Int)))], [])
                                else
                                  some ([.p (.bool false)], [])
                              else
                                some ([.p (.bool false)], [])
                            else
                              some ([.p (.bool false)], [])
                          else
                            some ([.p (.bool false)], [])
                        else
                          some ([.p (.bool false)], [])
                      else
                        some ([.p (.bool false)], [])
                    else
                      some ([.p (.bool false)], [])
                  else
                    some ([.p (.bool false)], [])
                else
                  some ([.p (.bool false)], []) := by kernel_rfl
def S10_1111111010 (l' : List PV) (out_o : Nat) (out_l : Nat) (t30' : Int) (t31' : Int) (b28_b : List PV) (nearest_b0_o : Nat) (nearest_b0_l : Nat) (out_b : List PV) : St := ⟨(.p (.list true [.int .i64, .int .i64, .int .i64] l')) :: .undef :: .undef :: .undef :: .undef :: .undef :: .undef :: (.ptr 7 0 0) :: (.fn 27 [.ptr 7 0 0]) :: (.slice 9 3 out_o out_l) :: .undef :: .undef :: .undef :: .undef :: .undef :: .undef :: .undef :: .undef :: .undef :: .undef :: .undef :: .undef :: .undef :: .undef :: .undef :: .undef :: .undef :: .undef :: .undef :: .undef :: (.p (.int .i64 t30')) :: (.p (.int .i64 t31')) :: List.replicate 38 .undef, [(28, .arr false [.int .i64] b28_b), (7, .box [.slice 28 1 nearest_b0_o nearest_b0_l]), (9, .arr true [.int .i64, .int .i64, .int .i64] out_b)]⟩
def S10_1111111010_110011010 (l' : List PV) (out_o : Nat) (out_l : Nat) (k' : Int) (t30' : Int) (t31' : Int) (t43' : Int) (t44' : Int) (b28_b : List PV) (nearest_b0_o : Nat) (nearest_b0_l : Nat) (out_b : List PV) : St := ⟨(.p (.list true [.int .i64, .int .i64, .int .i64] l')) :: .undef :: .undef :: .undef :: .undef :: .undef :: .undef :: (.ptr 7 0 0) :: (.fn 27 [.ptr 7 0 0]) :: (.slice 9 3 out_o out_l) :: (.p (.int .i64 k')) :: .undef :: .undef :: .undef :: .undef :: .undef :: .undef :: .undef :: .undef :: .undef :: .undef :: .undef :: .undef :: .undef :: .undef :: .undef :: .undef :: .undef :: .undef :: .undef :: (.p (.int .i64 t30')) :: (.p (.int .i64 t31')) :: .undef :: .undef :: .undef :: .undef :: .undef :: .undef :: .undef :: .undef :: .undef :: .undef :: .undef :: (.p (.int .i64 t43')) :: (.p (.int .i64 t44')) :: List.replicate 25 .undef, [(28, .arr false [.int .i64] b28_b), (7, .box [.slice 28 1 nearest_b0_o nearest_b0_l]), (9, .arr true [.int .i64, .int .i64, .int .i64] out_b)]⟩
theorem e10 (C : CallF) (l : List PV) (many : Int) : acallI tab C 10 [.p (.list true [.int .i64, .int .i64, .int .i64] l), .p (.int .i64 many)] [] =
  (C 24 [.p (.list true [.int .i64, .int .i64, .int .i64] l)] []).bind fun r1 =>
  bif (!(r1.1.headD .undef).pv.toBool) then
    some ([.fresh true [.int .i64, .int .i64, .int .i64] [], .p (.int .i64 2)], [])
  else
    bif (ltI many (0 : Int)) then
      some ([.fresh true [.int .i64, .int .i64, .int .i64] [], .p (.int .i64 2)], [])
    else
      bif (gtI many ((l.length : Nat) : Int)) then
        some ([.fresh true [.int .i64, .int .i64, .int .i64] [], .p (.int .i64 3)], [])
      else
        (C 25 [.p (.list false [.int .i64] [.int .i64 1125899906842624]), .p (.int .i64 ((l.length : Nat) : Int))] []).bind fun r2 =>
        (C 26 [.p (.list false [.int .i64] ((((r2.1.headD .undef).freshList).drop 0).take ((r2.1.headD .undef).freshList.length)))] []).bind fun r3 =>
        L tab C 10 [] [.lp [1, 1, 1, 1, 1, 1, 1, 0, 1, 0]] (S10_1111111010 l 0 0 many 0 ((r3.1.headD .undef).freshList) 0 ((r3.1.headD .undef).freshList.length) []) := by kernel_rfl
theorem e10_1111111010 (C : CallF) (l' : List PV) (out_o : Nat) (out_l : Nat) (t30' : Int) (t31' : Int) (b28_b : List PV) (nearest_b0_o : Nat) (nearest_b0_l : Nat) (out_b : List PV) : R tab C 10 [] [.lp [1, 1, 1, 1, 1, 1, 1, 0, 1, 0]] (S10_1111111010 l' out_o out_l t30' t31' b28_b nearest_b0_o nearest_b0_l out_b) =
  bif (ltI t31' t30') then
    (C 27 [.p (.ref [.list false [.int .i64] ((b28_b.drop nearest_b0_o).take nearest_b0_l)])] []).bind fun r1 =>
    bif ((leI (0 : Int) ((r1.1.headD .undef).pv.toInt)) && (ltI ((r1.1.headD .undef).pv.toInt) ((l'.length : Nat) : Int))) then bif (leN (out_l + 1) 2147483648) then L tab C 10 [] [.lp [1, 1, 1, 1, 1, 1, 1, 0, 1, 0], .lp [1, 1, 0, 0, 1, 1, 0, 1, 0]] (S10_1111111010_110011010 l' 0 (out_l + 1) ((r1.1.headD .undef).pv.toInt) t30' t31' (nearest_b0_l : Int) 0 b28_b nearest_b0_o nearest_b0_l (((out_b.drop out_o).take out_l) ++ ([.agg [.int .i64 (((l'.getD ((r1.1.headD .undef).pv.toInt.toNat) .nil).cell 0).toInt), .int .i64 (((l'.getD ((r1.1.headD .undef).pv.toInt.toNat) .nil).cell 1).toInt), .int .i64 (((l'.getD ((r1.1.headD .undef).pv.toInt.toNat) .nil).cell 2).toInt)]] : List PV))) else none else none
  else
    some ([.fresh true [.int .i64, .int .i64, .int .i64] ((out_b.drop out_o).take out_l), .p (.int .i64 0)], []) := by kernel_rfl
theorem e10_1111111010_110011010 (C : CallF) (l' : List PV) (out_o : Nat) (out_l : Nat) (k' : Int) (t30' : Int) (t31' : Int) (t43' : Int) (t44' : Int) (b28_b : List PV) (nearest_b0_o : Nat) (nearest_b0_l : Nat) (out_b : List PV) : R tab C 10 [] [.lp [1, 1, 1, 1, 1, 1, 1, 0, 1, 0], .lp [1, 1, 0, 0, 1, 1, 0, 1, 0]] (S10_1111111010_110011010 l' out_o out_l k' t30' t31' t43' t44' b28_b nearest_b0_o nearest_b0_l out_b) =
  bif (ltI t44' t43') then
    bif ((leI (0 : Int) t44') && (ltI t44' (nearest_b0_l : Int))) then bif ((leI (0 : Int) t44') && (ltI t44' ((l'.length : Nat) : Int))) then bif ((leI (0 : Int) k') && (ltI k' ((l'.length : Nat) : Int))) then (C 28 [.p (.agg [.int .i64 (((l'.getD t44'.toNat .nil).cell 0).toInt), .int .i64 (((l'.getD t44'.toNat .nil).cell 1).toInt), .int .i64 (((l'.getD t44'.toNat .nil).cell 2).toInt)]), .p (.agg [.int .i64 (((l'.getD k'.toNat .nil).cell 0).toInt), .int .i64 (((l'.getD k'.toNat .nil).cell 1).toInt), .int .i64 (((l'.getD k'.toNat .nil).cell 2).toInt)])] []).bind fun r1 =>
    bif ((leI (0 : Int) t44') && (ltI t44' (nearest_b0_l : Int))) then L tab C 10 [] [.lp [1, 1, 1, 1, 1, 1, 1, 0, 1, 0], .lp [1, 1, 0, 0, 1, 1, 0, 1, 0]] (S10_1111111010_110011010 l' out_o out_l k' t30' t31' t43' (IntKind.i64.wrap (t44' + (1 : Int))) (b28_b.set (nearest_b0_o + t44'.toNat) (PV.int .i64 (goMin (((b28_b.getD (nearest_b0_o + t44'.toNat) .nil).cell 0).toInt) ((r1.1.headD .undef).pv.toInt)))) nearest_b0_o nearest_b0_l out_b) else none else none else none else none
  else
    bif ((leI (0 : Int) k') && (ltI k' (nearest_b0_l : Int))) then L tab C 10 [] [.lp [1, 1, 1, 1, 1, 1, 1, 0, 1, 0]] (S10_1111111010 l' out_o out_l t30' (IntKind.i64.wrap (t31' + (1 : Int))) (b28_b.set (nearest_b0_o + k'.toNat) (PV.int .i64 (-1))) nearest_b0_o nearest_b0_l out_b) else none := by kernel_rfl
def S12_11010 (a' : List PV) (b' : List PV) (i' : Int) : St := ⟨(.p (.list true [.int .i64, .int .i64, .int .i64] a')) :: (.p (.list true [.int .i64, .int .i64, .int .i64] b')) :: .undef :: .undef :: .undef :: (.p (.int .i64 i')) :: List.replicate 20 .undef, []⟩
theorem e12 (C : CallF) (a : List PV) (b : List PV) : acallI tab C 12 [.p (.list true [.int .i64, .int .i64, .int .i64] a), .p (.list true [.int .i64, .int .i64, .int .i64] b)] [] =
  bif (((a.length : Nat) : Int) != ((b.length : Nat) : Int)) then
    some ([.p (.bool false)], [])
  else
    L tab C 12 [] [.lp [1, 1, 0, 1, 0]] (S12_11010 a b 0) := by kernel_rfl
theorem e12_11010 (C : CallF) (a' : List PV) (b' : List PV) (i' : Int) : R tab C 12 [] [.lp [1, 1, 0, 1, 0]] (S12_11010 a' b' i') =
  bif (ltI i' ((a'.length : Nat) : Int)) then
    bif ((leI (0 : Int) i') && (ltI i' ((a'.length : Nat) : Int))) then bif ((leI (0 : Int) i') && (ltI i' ((b'.length : Nat) : Int))) then bif (!((((a'.getD i'.toNat .nil).cell 0).toInt == ((b'.getD i'.toNat .nil).cell 0).toInt) && ((((a'.getD i'.toNat .nil).cell 1).toInt == ((b'.getD i'.toNat .nil).cell 1).toInt) && ((((a'.getD i'.toNat .nil).cell 2).toInt == ((b'.getD i'.toNat .nil).cell 2).toInt) && true)))) then
      some ([.p (.bool false)], [])
    else
      L tab C 12 [] [.lp [1, 1, 0, 1, 0]] (S12_11010 a' b' (IntKind.i64.wrap (i' + (1 : Int)))) else none else none
  else
    some ([.p (.bool true)], []) := by kernel_rfl
def S13_1111010 (l' : List PV) (least' : Int) (t15' : List PV) (t16' : Int) (t17' : Int) : St := ⟨(.p (.list true [.int .i64, .int .i64, .int .i64] l')) :: .undef :: .undef :: .undef :: (.p (.int .i64 least')) :: .undef :: .undef :: .undef :: .undef :: .undef :: .undef :: .undef :: .undef :: .undef :: .undef :: (.p (.list true [.int .i64, .int .i64, .int .i64] t15')) :: (.p (.int .i64 t16')) :: (.p (.int .i64 t17')) :: List.replicate 34 .undef, []⟩
def S13_1111010_1100110 (l' : List PV) (least' : Int) (t15' : List PV) (t16' : Int) (t17' : Int) (t25' : List PV) (t26' : Int) (t27' : Int) (a_b0 : Int) (a_b1 : Int) (a_b2 : Int) : St := ⟨(.p (.list true [.int .i64, .int .i64, .int .i64] l')) :: .undef :: .undef :: .undef :: (.p (.int .i64 least')) :: .undef :: (.ptr 6 0 0) :: .undef :: .undef :: .undef :: .undef :: .undef :: .undef :: .undef :: .undef :: (.p (.list true [.int .i64, .int .i64, .int .i64] t15')) :: (.p (.int .i64 t16')) :: (.p (.int .i64 t17')) :: .undef :: .undef :: .undef :: .undef :: .undef :: .undef :: .undef :: (.p (.list true [.int .i64, .int .i64, .int .i64] t25')) :: (.p (.int .i64 t26')) :: (.p (.int .i64 t27')) :: List.replicate 24 .undef, [(6, .box [.p (.int .i64 a_b0), .p (.int .i64 a_b1), .p (.int .i64 a_b2)])]⟩
theorem e13 (C : CallF) (l : List PV) : acallI tab C 13 [.p (.list true [.int .i64, .int .i64, .int .i64] l)] [] =
  (C 24 [.p (.list true [.int .i64, .int .i64, .int .i64] l)] []).bind fun r1 =>
  bif (!(r1.1.headD .undef).pv.toBool) then
    some ([.p (.int .i64 0), .p (.int .i64 2)], [])
  else
    bif (ltI ((l.length : Nat) : Int) (2 : Int)) then
      some ([.p (.int .i64 0), .p (.int .i64 9)], [])
    else
      L tab C 13 [] [.lp [1, 1, 1, 1, 0, 1, 0]] (S13_1111010 l 1125899906842624 l ((l.length : Nat) : Int) 0) := by kernel_rfl
theorem e13_1111010 (C : CallF) (l' : List PV) (least' : Int) (t15' : List PV) (t16' : Int) (t17' : Int) : R tab C 13 [] [.lp [1, 1, 1, 1, 0, 1, 0]] (S13_1111010 l' least' t15' t16' t17') =
  bif (ltI t17' t16') then
    bif ((leI (0 : Int) t17') && (ltI t17' ((t15'.length : Nat) : Int))) then bif ((leI (0 : Int) (IntKind.i64.wrap (t17' + (1 : Int)))) && ((leI (IntKind.i64.wrap (t17' + (1 : Int))) ((l'.length : Nat) : Int)) && ((leI ((l'.length : Nat) : Int) ((l'.length : Nat) : Int)) && (leI ((l'.length : Nat) : Int) ((l'.length : Nat) : Int))))) then L tab C 13 [] [.lp [1, 1, 1, 1, 0, 1, 0], .lp [1, 1, 0, 0, 1, 1, 0]] (S13_1111010_1100110 l' least' t15' t16' t17' ((l'.drop ((IntKind.i64.wrap (t17' + (1 : Int))).toNat)).take ((((l'.length : Nat) : Int) - (IntKind.i64.wrap (t17' + (1 : Int)))).toNat)) ((((l'.drop ((IntKind.i64.wrap (t17' + (1 : Int))).toNat)).take ((((l'.length : Nat) : Int) - (IntKind.i64.wrap (t17' + (1 : Int)))).toNat)).length : Nat) : Int) 0 (((t15'.getD t17'.toNat .nil).cell 0).toInt) (((t15'.getD t17'.toNat .nil).cell 1).toInt) (((t15'.getD t17'.toNat .nil).cell 2).toInt)) else none else none
  else
    some ([.p (.int .i64 least'), .p (.int .i64 0)], []) := by kernel_rfl
theorem e13_1111010_1100110 (C : CallF) (l' : List PV) (least' : Int) (t15' : List PV) (t16' : Int) (t17' : Int) (t25' : List PV) (t26' : Int) (t27' : Int) (a_b0 : Int) (a_b1 : Int) (a_b2 : Int) : R tab C 13 [] [.lp [1, 1, 1, 1, 0, 1, 0], .lp [1, 1, 0, 0, 1, 1, 0]] (S13_1111010_1100110 l' least' t15' t16' t17' t25' t26' t27' a_b0 a_b1 a_b2) =
  bif (ltI t27' t26') then
    bif ((leI (0 : Int) t27') && (ltI t27' ((t25'.length : Nat) : Int))) then bif (geI (IntKind.i64.wrap ((IntKind.i64.wrap (((t25'.getD t27'.toNat .nil).cell 0).toInt - a_b0)) * (IntKind.i64.wrap (((t25'.getD t27'.toNat .nil).cell 0).toInt - a_b0)))) least') then
      L tab C 13 [] [.lp [1, 1, 1, 1, 0, 1, 0]] (S13_1111010 l' least' t15' t16' (IntKind.i64.wrap (t17' + (1 : Int))))
    else
      (C 28 [.p (.agg [.int .i64 a_b0, .int .i64 a_b1, .int .i64 a_b2]), .p (.agg [.int .i64 (((t25'.getD t27'.toNat .nil).cell 0).toInt), .int .i64 (((t25'.getD t27'.toNat .nil).cell 1).toInt), .int .i64 (((t25'.getD t27'.toNat .nil).cell 2).toInt)])] []).bind fun r1 =>
      L tab C 13 [] [.lp [1, 1, 1, 1, 0, 1, 0], .lp [1, 1, 0, 0, 1, 1, 0]] (S13_1111010_1100110 l' (goMin least' ((r1.1.headD .undef).pv.toInt)) t15' t16' t17' t25' t26' (IntKind.i64.wrap (t27' + (1 : Int))) a_b0 a_b1 a_b2) else none
  else
    L tab C 13 [] [.lp [1, 1, 1, 1, 0, 1, 0]] (S13_1111010 l' least' t15' t16' (IntKind.i64.wrap (t17' + (1 : Int)))) := by kernel_rfl
def S15_1111010 (chosen' : List PV) (most' : Int) (t23' : List PV) (t24' : Int) (t25' : Int) : St := ⟨.undef :: (.p (.list true [.int .i64, .int .i64, .int .i64] chosen')) :: .undef :: .undef :: .undef :: .undef :: (.p (.int .i64 most')) :: .undef :: .undef :: .undef :: .undef :: .undef :: .undef :: .undef :: .undef :: .undef :: .undef :: .undef :: .undef :: .undef :: .undef :: .undef :: .undef :: (.p (.list true [.int .i64, .int .i64, .int .i64] t23')) :: (.p (.int .i64 t24')) :: (.p (.int .i64 t25')) :: List.replicate 20 .undef, []⟩
def S15_1111010_110011010 (chosen' : List PV) (most' : Int) (least' : Int) (t23' : List PV) (t24' : Int) (t25' : Int) (t29' : List PV) (t30' : Int) (t31' : Int) (a_b0 : Int) (a_b1 : Int) (a_b2 : Int) : St := ⟨.undef :: (.p (.list true [.int .i64, .int .i64, .int .i64] chosen')) :: .undef :: .undef :: .undef :: .undef :: (.p (.int .i64 most')) :: .undef :: (.ptr 8 0 0) :: (.p (.int .i64 least')) :: .undef :: .undef :: .undef :: .undef :: .undef :: .undef :: .undef :: .undef :: .undef :: .undef :: .undef :: .undef :: .undef :: (.p (.list true [.int .i64, .int .i64, .int .i64] t23')) :: (.p (.int .i64 t24')) :: (.p (.int .i64 t25')) :: .undef :: .undef :: .undef :: (.p (.list true [.int .i64, .int .i64, .int .i64] t29')) :: (.p (.int .i64 t30')) :: (.p (.int .i64 t31')) :: List.replicate 14 .undef, [(8, .box [.p (.int .i64 a_b0), .p (.int .i64 a_b1), .p (.int .i64 a_b2)])]⟩
theorem e15 (C : CallF) (l : List PV) (chosen : List PV) : acallI tab C 15 [.p (.list true [.int .i64, .int .i64, .int .i64] l), .p (.list true [.int .i64, .int .i64, .int .i64] chosen)] [] =
  (C 24 [.p (.list true [.int .i64, .int .i64, .int .i64] l)] []).bind fun r1 =>
  bif (!(r1.1.headD .undef).pv.toBool) then
    some ([.p (.int .i64 0), .p (.int .i64 2)], [])
  else
    (C 31 [.p (.list true [.int .i64, .int .i64, .int .i64] chosen)] []).bind fun r2 =>
    bif (!(r2.1.headD .undef).pv.toBool) then
      some ([.p (.int .i64 0), .p (.int .i64 2)], [])
    else
      bif (((chosen.length : Nat) : Int) == (0 : Int)) then
        some ([.p (.int .i64 0), .p (.int .i64 9)], [])
      else
        L tab C 15 [] [.lp [1, 1, 1, 1, 0, 1, 0]] (S15_1111010 chosen 0 l ((l.length : Nat) : Int) 0) := by kernel_rfl
theorem e15_1111010 (C : CallF) (chosen' : List PV) (most' : Int) (t23' : List PV) (t24' : Int) (t25' : Int) : R tab C 15 [] [.lp [1, 1, 1, 1, 0, 1, 0]] (S15_1111010 chosen' most' t23' t24' t25') =
  bif (ltI t25' t24') then
    bif ((leI (0 : Int) t25') && (ltI t25' ((t23'.length : Nat) : Int))) then L tab C 15 [] [.lp [1, 1, 1, 1, 0, 1, 0], .lp [1, 1, 0, 0, 1, 1, 0, 1, 0]] (S15_1111010_110011010 chosen' most' 1125899906842624 t23' t24' t25' chosen' ((chosen'.length : Nat) : Int) 0 (((t23'.getD t25'.toNat .nil).cell 0).toInt) (((t23'.getD t25'.toNat .nil).cell 1).toInt) (((t23'.getD t25'.toNat .nil).cell 2).toInt)) else none
  else
    some ([.p (.int .i64 most'), .p (.int .i64 0)], []) := by kernel_rfl
theorem e15_1111010_110011010 (C : CallF) (chosen' : List PV) (most' : Int) (least' : Int) (t23' : List PV) (t24' : Int) (t25' : Int) (t29' : List PV) (t30' : Int) (t31' : Int) (a_b0 : Int) (a_b1 : Int) (a_b2 : Int) : R tab C 15 [] [.lp [1, 1, 1, 1, 0, 1, 0], .lp [1, 1, 0, 0, 1, 1, 0, 1, 0]] (S15_1111010_110011010 chosen' most' least' t23' t24' t25' t29' t30' t31' a_b0 a_b1 a_b2) =
  bif (ltI t31' t30') then
    bif ((leI (0 : Int) t31') && (ltI t31' ((t29'.length : Nat) : Int))) then (C 28 [.p (.agg [.int .i64 a_b0, .int .i64 a_b1, .int .i64 a_b2]), .p (.agg [.int .i64 (((t29'.getD t31'.toNat .nil).cell 0).toInt), .int .i64 (((t29'.getD t31'.toNat .nil).cell 1).toInt), .int .i64 (((t29'.getD t31'.toNat .nil).cell 2).toInt)])] []).bind fun r1 =>
    L tab C 15 [] [.lp [1, 1, 1, 1, 0, 1, 0], .lp [1, 1, 0, 0, 1, 1, 0, 1, 0]] (S15_1111010_110011010 chosen' most' (goMin least' ((r1.1.headD .undef).pv.toInt)) t23' t24' t25' t29' t30' (IntKind.i64.wrap (t31' + (1 : Int))) a_b0 a_b1 a_b2) else none
  else
    L tab C 15 [] [.lp [1, 1, 1, 1, 0, 1, 0]] (S15_1111010 chosen' (goMax most' least') t23' t24' (IntKind.i64.wrap (t25' + (1 : Int)))) := by kernel_rfl
theorem e17 (C : CallF) (f : List PV) (many : Int) : acallI tab C 17 [.p (.list true [.int .i64, .slice true [.int .i64, .int .i64, .int .i64], .int .i64, .int .i64, .int .i64, .int .i64] f), .p (.int .i64 many)] [] =
  bif (ltI many (0 : Int)) then
    some ([.fresh true [.int .i64, .int .i64, .int .i64] [], .p (.int .i64 2)], [])
  else
    (C 33 [.p (.list true [.int .i64, .slice true [.int .i64, .int .i64, .int .i64], .int .i64, .int .i64, .int .i64, .int .i64] f)] []).bind fun r1 =>
    bif ((r1.1.tail.headD .undef).pv.toInt != (0 : Int)) then
      some ([.fresh true [.int .i64, .int .i64, .int .i64] [], .p (.int .i64 ((r1.1.tail.headD .undef).pv.toInt))], [])
    else
      (C 10 [.p (.list true [.int .i64, .int .i64, .int .i64] ((((r1.1.headD .undef).freshList).drop 0).take ((r1.1.headD .undef).freshList.length))), .p (.int .i64 many)] []).bind fun r2 =>
      bif ((r2.1.tail.headD .undef).pv.toInt != (0 : Int)) then
        some ([.fresh true [.int .i64, .int .i64, .int .i64] [], .p (.int .i64 ((r2.1.tail.headD .undef).pv.toInt))], [])
      else
        (C 34 [.slice 100000 3 0 ((r2.1.headD .undef).freshList.length), .p (.fn 35 [])] [.arr true [.int .i64, .int .i64, .int .i64] ((r2.1.headD .undef).freshList)]).bind fun r3 =>
        some ([.fresh true [.int .i64, .int .i64, .int .i64] ((((r3.2.headD (.box [])).xs).drop 0).take ((r2.1.headD .undef).freshList.length)), .p (.int .i64 0)], []) := by kernel_rfl
theorem e19 (C : CallF) (x : Int) (y : Int) (z : Int) : acallI tab C 19 [.p (.int .i64 x), .p (.int .i64 y), .p (.int .i64 z)] [] =
  some ([.p (.agg [.int .i64 x, .int .i64 y, .int .i64 z])], []) := by kernel_rfl
def S20_1010 (l' : List PV) (i' : Int) : St := ⟨(.p (.list true [.int .i64, .int .i64, .int .i64] l')) :: .undef :: .undef :: (.p (.int .i64 i')) :: List.replicate 25 .undef, []⟩
theorem e20 (C : CallF) (l : List PV) : acallI tab C 20 [.p (.list true [.int .i64, .int .i64, .int .i64] l)] [] =
  L tab C 20 [] [.lp [1, 0, 1, 0]] (S20_1010 l 0) := by kernel_rfl
theorem e20_1010 (C : CallF) (l' : List PV) (i' : Int) : R tab C 20 [] [.lp [1, 0, 1, 0]] (S20_1010 l' i') =
  bif (ltI (IntKind.i64.wrap (i' + (1 : Int))) ((l'.length : Nat) : Int)) then
    bif ((leI (0 : Int) i') && (ltI i' ((l'.length : Nat) : Int))) then bif ((leI (0 : Int) (IntKind.i64.wrap (i' + (1 : Int)))) && (ltI (IntKind.i64.wrap (i' + (1 : Int))) ((l'.length : Nat) : Int))) then (C 38 [.p (.agg [.int .i64 (((l'.getD i'.toNat .nil).cell 0).toInt), .int .i64 (((l'.getD i'.toNat .nil).cell 1).toInt), .int .i64 (((l'.getD i'.toNat .nil).cell 2).toInt)]), .p (.agg [.int .i64 (((l'.getD ((IntKind.i64.wrap (i' + (1 : Int))).toNat) .nil).cell 0).toInt), .int .i64 (((l'.getD ((IntKind.i64.wrap (i' + (1 : Int))).toNat) .nil).cell 1).toInt), .int .i64 (((l'.getD ((IntKind.i64.wrap (i' + (1 : Int))).toNat) .nil).cell 2).toInt)])] []).bind fun r1 =>
    bif ((r1.1.headD .undef).pv.toInt != (-1 : Int)) then
      some ([.p (.bool false)], [])
    else
      L tab C 20 [] [.lp [1, 0, 1, 0]] (S20_1010 l' (IntKind.i64.wrap (i' + (1 : Int)))) else none else none
  else
    bif (leI ((l'.length : Nat) : Int) (4096 : Int)) then
      (C 32 [.p (.list true [.int .i64, .int .i64, .int .i64] l')] []).bind fun r2 =>
      some ([.p (.bool ((r2.1.headD .undef).pv.toBool))], [])
    else
      some ([.p (.bool false)], []) := by kernel_rfl
theorem e21 (C : CallF) (a_0 : Int) (a_1 : Int) (a_2 : Int) (b_0 : Int) (b_1 : Int) (b_2 : Int) : acallI tab C 21 [.p (.agg [.int .i64 a_0, .int .i64 a_1, .int .i64 a_2]), .p (.agg [.int .i64 b_0, .int .i64 b_1, .int .i64 b_2])] [] =
  (C 40 [.p (.agg [.int .i64 a_0, .int .i64 a_1, .int .i64 a_2]), .p (.agg [.int .i64 b_0, .int .i64 b_1, .int .i64 b_2])] []).bind fun r1 =>
  (C 40 [.p (.agg [.int .i64 a_0, .int .i64 a_1, .int .i64 a_2]), .p (.agg [.int .i64 b_0, .int .i64 b_1, .int .i64 b_2])] []).bind fun r2 =>
  (C 39 [.p (.agg [.int .i64 (((r1.1.headD .undef).pv.cell 0).toInt), .int .i64 (((r1.1.headD .undef).pv.cell 1).toInt), .int .i64 (((r1.1.headD .undef).pv.cell 2).toInt)]), .p (.agg [.int .i64 (((r2.1.headD .undef).pv.cell 0).toInt), .int .i64 (((r2.1.headD .undef).pv.cell 1).toInt), .int .i64 (((r2.1.headD .undef).pv.cell 2).toInt)])] []).bind fun r3 =>
  some ([.p (.int .i64 ((r3.1.headD .undef).pv.toInt))], []) := by kernel_rfl
def S22_10101010 (chosen' : List PV) (n_' : Int) (t21' : List PV) (t22' : Int) (t23' : Int) : St := ⟨.undef :: .undef :: .undef :: (.p (.list true [.int .i64, .int .i64, .int .i64] chosen')) :: .undef :: .undef :: .undef :: .undef :: .undef :: (.p (.int .i64 n_')) :: .undef :: .undef :: .undef :: .undef :: .undef :: .undef :: .undef :: .undef :: .undef :: .undef :: .undef :: (.p (.list true [.int .i64, .int .i64, .int .i64] t21')) :: (.p (.int .i64 t22')) :: (.p (.int .i64 t23')) :: List.replicate 58 .undef, []⟩
def S22_111010 (l' : List PV) (many' : Int) (chosen' : List PV) (best' : Int) (i' : Int) : St := ⟨(.p (.list true [.int .i64, .int .i64, .int .i64] l')) :: (.p (.int .i64 many')) :: .undef :: (.p (.list true [.int .i64, .int .i64, .int .i64] chosen')) :: .undef :: .undef :: .undef :: .undef :: .undef :: .undef :: .undef :: .undef :: .undef :: .undef :: .undef :: .undef :: (.p (.int .i64 best')) :: (.p (.int .i64 i')) :: List.replicate 64 .undef, []⟩
def S22_10101010_110011010 (chosen' : List PV) (n_' : Int) (near' : Int) (t21' : List PV) (t22' : Int) (t23' : Int) (t27' : List PV) (t28' : Int) (t29' : Int) (p_b0 : Int) (p_b1 : Int) (p_b2 : Int) : St := ⟨.undef :: .undef :: .undef :: (.p (.list true [.int .i64, .int .i64, .int .i64] chosen')) :: .undef :: .undef :: .undef :: .undef :: .undef :: (.p (.int .i64 n_')) :: .undef :: (.ptr 11 0 0) :: (.p (.int .i64 near')) :: .undef :: .undef :: .undef :: .undef :: .undef :: .undef :: .undef :: .undef :: (.p (.list true [.int .i64, .int .i64, .int .i64] t21')) :: (.p (.int .i64 t22')) :: (.p (.int .i64 t23')) :: .undef :: .undef :: .undef :: (.p (.list true [.int .i64, .int .i64, .int .i64] t27')) :: (.p (.int .i64 t28')) :: (.p (.int .i64 t29')) :: List.replicate 52 .undef, [(11, .box [.p (.int .i64 p_b0), .p (.int .i64 p_b1), .p (.int .i64 p_b2)])]⟩
theorem e22 (C : CallF) (l : List PV) (many : Int) (from_ : Int) (chosen : List PV) : acallI tab C 22 [.p (.list true [.int .i64, .int .i64, .int .i64] l), .p (.int .i64 many), .p (.int .i64 from_), .p (.list true [.int .i64, .int .i64, .int .i64] chosen)] [] =
  bif (many == (0 : Int)) then
    L tab C 22 [] [.lp [1, 0, 1, 0, 1, 0, 1, 0]] (S22_10101010 chosen 0 l ((l.length : Nat) : Int) 0)
  else
    L tab C 22 [] [.lp [1, 1, 1, 0, 1, 0]] (S22_111010 l many chosen (-1) from_) := by kernel_rfl
theorem e22_10101010 (C : CallF) (chosen' : List PV) (n_' : Int) (t21' : List PV) (t22' : Int) (t23' : Int) : R tab C 22 [] [.lp [1, 0, 1, 0, 1, 0, 1, 0]] (S22_10101010 chosen' n_' t21' t22' t23') =
  bif (ltI t23' t22') then
    bif ((leI (0 : Int) t23') && (ltI t23' ((t21'.length : Nat) : Int))) then L tab C 22 [] [.lp [1, 0, 1, 0, 1, 0, 1, 0], .lp [1, 1, 0, 0, 1, 1, 0, 1, 0]] (S22_10101010_110011010 chosen' n_' (-1) t21' t22' t23' chosen' ((chosen'.length : Nat) : Int) 0 (((t21'.getD t23'.toNat .nil).cell 0).toInt) (((t21'.getD t23'.toNat .nil).cell 1).toInt) (((t21'.getD t23'.toNat .nil).cell 2).toInt)) else none
  else
    some ([.p (.int .i64 n_')], []) := by kernel_rfl
theorem e22_111010 (C : CallF) (l' : List PV) (many' : Int) (chosen' : List PV) (best' : Int) (i' : Int) : R tab C 22 [] [.lp [1, 1, 1, 0, 1, 0]] (S22_111010 l' many' chosen' best' i') =
  bif (leI (IntKind.i64.wrap (i' + many')) ((l'.length : Nat) : Int)) then
    bif (leN chosen'.length 2147483648) then bif ((leI (0 : Int) i') && (ltI i' ((l'.length : Nat) : Int))) then bif (leN (chosen'.length + 1) 2147483648) then (C 22 [.p (.list true [.int .i64, .int .i64, .int .i64] l'), .p (.int .i64 (IntKind.i64.wrap (many' - (1 : Int)))), .p (.int .i64 (IntKind.i64.wrap (i' + (1 : Int)))), .p (.list true [.int .i64, .int .i64, .int .i64] (((((chosen'.drop 0).take chosen'.length) ++ ([.agg [.int .i64 (((l'.getD i'.toNat .nil).cell 0).toInt), .int .i64 (((l'.getD i'.toNat .nil).cell 1).toInt), .int .i64 (((l'.getD i'.toNat .nil).cell 2).toInt)]] : List PV)).drop 0).take (chosen'.length + 1)))] []).bind fun r1 =>
    bif (ltI best' (0 : Int)) then
      L tab C 22 [] [.lp [1, 1, 1, 0, 1, 0]] (S22_111010 l' many' chosen' ((r1.1.headD .undef).pv.toInt) (IntKind.i64.wrap (i' + (1 : Int))))
    else
      bif (ltI ((r1.1.headD .undef).pv.toInt) best') then
        L tab C 22 [] [.lp [1, 1, 1, 0, 1, 0]] (S22_111010 l' many' chosen' ((r1.1.headD .undef).pv.toInt) (IntKind.i64.wrap (i' + (1 : Int))))
      else
        L tab C 22 [] [.lp [1, 1, 1, 0, 1, 0]] (S22_111010 l' many' chosen' best' (IntKind.i64.wrap (i' + (1 : Int)))) else none else none else none
  else
    some ([.p (.int .i64 best')], []) := by kernel_rfl
theorem e22_10101010_110011010 (C : CallF) (chosen' : List PV) (n_' : Int) (near' : Int) (t21' : List PV) (t22' : Int) (t23' : Int) (t27' : List PV) (t28' : Int) (t29' : Int) (p_b0 : Int) (p_b1 : Int) (p_b2 : Int) : R tab C 22 [] [.lp [1, 0, 1, 0, 1, 0, 1, 0], .lp [1, 1, 0, 0, 1, 1, 0, 1, 0]] (S22_10101010_110011010 chosen' n_' near' t21' t22' t23' t27' t28' t29' p_b0 p_b1 p_b2) =
  bif (ltI t29' t28') then
    bif ((leI (0 : Int) t29') && (ltI t29' ((t27'.length : Nat) : Int))) then (C 21 [.p (.agg [.int .i64 p_b0, .int .i64 p_b1, .int .i64 p_b2]), .p (.agg [.int .i64 (((t27'.getD t29'.toNat .nil).cell 0).toInt), .int .i64 (((t27'.getD t29'.toNat .nil).cell 1).toInt), .int .i64 (((t27'.getD t29'.toNat .nil).cell 2).toInt)])] []).bind fun r1 =>
    bif (ltI near' (0 : Int)) then
      L tab C 22 [] [.lp [1, 0, 1, 0, 1, 0, 1, 0], .lp [1, 1, 0, 0, 1, 1, 0, 1, 0]] (S22_10101010_110011010 chosen' n_' ((r1.1.headD .undef).pv.toInt) t21' t22' t23' t27' t28' (IntKind.i64.wrap (t29' + (1 : Int))) p_b0 p_b1 p_b2)
    else
      bif (ltI ((r1.1.headD .undef).pv.toInt) near') then
        L tab C 22 [] [.lp [1, 0, 1, 0, 1, 0, 1, 0], .lp [1, 1, 0, 0, 1, 1, 0, 1, 0]] (S22_10101010_110011010 chosen' n_' ((r1.1.headD .undef).pv.toInt) t21' t22' t23' t27' t28' (IntKind.i64.wrap (t29' + (1 : Int))) p_b0 p_b1 p_b2)
      else
        L tab C 22 [] [.lp [1, 0, 1, 0, 1, 0, 1, 0], .lp [1, 1, 0, 0, 1, 1, 0, 1, 0]] (S22_10101010_110011010 chosen' n_' near' t21' t22' t23' t27' t28' (IntKind.i64.wrap (t29' + (1 : Int))) p_b0 p_b1 p_b2) else none
  else
    L tab C 22 [] [.lp [1, 0, 1, 0, 1, 0, 1, 0]] (S22_10101010 chosen' (goMax n_' near') t21' t22' (IntKind.i64.wrap (t23' + (1 : Int)))) := by kernel_rfl
def S23_11010 (out_o : Nat) (out_l : Nat) (t6' : List PV) (t7' : Int) (t8' : Int) (out_b : List PV) : St := ⟨.undef :: .undef :: .undef :: (.slice 3 3 out_o out_l) :: .undef :: .undef :: (.p (.list false [.int .i64] t6')) :: (.p (.int .i64 t7')) :: (.p (.int .i64 t8')) :: List.replicate 10 .undef, [(3, .arr true [.int .i64, .int .i64, .int .i64] out_b)]⟩
theorem e23 (C : CallF) (l : List PV) : acallI tab C 23 [.p (.list false [.int .i64] l)] [] =
  L tab C 23 [] [.lp [1, 1, 0, 1, 0]] (S23_11010 0 0 l ((l.length : Nat) : Int) 0 []) := by kernel_rfl
theorem e23_11010 (C : CallF) (out_o : Nat) (out_l : Nat) (t6' : List PV) (t7' : Int) (t8' : Int) (out_b : List PV) : R tab C 23 [] [.lp [1, 1, 0, 1, 0]] (S23_11010 out_o out_l t6' t7' t8' out_b) =
  bif (ltI t8' t7') then
    bif ((leI (0 : Int) t8') && (ltI t8' ((t6'.length : Nat) : Int))) then (C 19 [.p (.int .i64 (((t6'.getD t8'.toNat .nil).cell 0).toInt)), .p (.int .i64 0), .p (.int .i64 0)] []).bind fun r1 =>
    bif (leN (out_l + 1) 2147483648) then L tab C 23 [] [.lp [1, 1, 0, 1, 0]] (S23_11010 0 (out_l + 1) t6' t7' (IntKind.i64.wrap (t8' + (1 : Int))) (((out_b.drop out_o).take out_l) ++ ([.agg [.int .i64 (((r1.1.headD .undef).pv.cell 0).toInt), .int .i64 (((r1.1.headD .undef).pv.cell 1).toInt), .int .i64 (((r1.1.headD .undef).pv.cell 2).toInt)]] : List PV))) else none else none
  else
    some ([.fresh true [.int .i64, .int .i64, .int .i64] ((out_b.drop out_o).take out_l)], []) := by kernel_rfl
def S24_1010 (l' : List PV) (i' : Int) : St := ⟨(.p (.list true [.int .i64, .int .i64, .int .i64] l')) :: .undef :: .undef :: (.p (.int .i64 i')) :: List.replicate 19 .undef, []⟩
theorem e24 (C : CallF) (l : List PV) : acallI tab C 24 [.p (.list true [.int .i64, .int .i64, .int .i64] l)] [] =
  L tab C 24 [] [.lp [1, 0, 1, 0]] (S24_1010 l 1) := by kernel_rfl
theorem e24_1010 (C : CallF) (l' : List PV) (i' : Int) : R tab C 24 [] [.lp [1, 0, 1, 0]] (S24_1010 l' i') =
  bif (ltI i' ((l'.length : Nat) : Int)) then
    bif ((leI (0 : Int) (IntKind.i64.wrap (i' - (1 : Int)))) && (ltI (IntKind.i64.wrap (i' - (1 : Int))) ((l'.length : Nat) : Int))) then bif ((leI (0 : Int) i') && (ltI i' ((l'.length : Nat) : Int))) then (C 35 [.p (.agg [.int .i64 (((l'.getD ((IntKind.i64.wrap (i' - (1 : Int))).toNat) .nil).cell 0).toInt), .int .i64 (((l'.getD ((IntKind.i64.wrap (i' - (1 : Int))).toNat) .nil).cell 1).toInt), .int .i64 (((l'.getD ((IntKind.i64.wrap (i' - (1 : Int))).toNat) .nil).cell 2).toInt)]), .p (.agg [.int .i64 (((l'.getD i'.toNat .nil).cell 0).toInt), .int .i64 (((l'.getD i'.toNat .nil).cell 1).toInt), .int .i64 (((l'.getD i'.toNat .nil).cell 2).toInt)])] []).bind fun r1 =>
    bif (geI ((r1.1.headD .undef).pv.toInt) (0 : Int)) then
      some ([.p (.bool false)], [])
    else
      L tab C 24 [] [.lp [1, 0, 1, 0]] (S24_1010 l' (IntKind.i64.wrap (i' + (1 : Int)))) else none else none
  else
    (C 31 [.p (.list true [.int .i64, .int .i64, .int .i64] l')] []).bind fun r2 =>
    some ([.p (.bool ((r2.1.headD .undef).pv.toBool))], []) := by kernel_rfl
def S25_11111100 (newslice_o : Nat) (newslice_l : Nat) (n_' : Int) (newslice_b : List PV) : St := ⟨.undef :: .undef :: .undef :: .undef :: .undef :: .undef :: .undef :: (.slice 7 1 newslice_o newslice_l) :: (.p (.int .i64 n_')) :: List.replicate 39 .undef, [(7, .arr false [.int .i64] newslice_b)]⟩
theorem e25 (C : CallF) (x : List PV) (count : Int) : acallI tab C 25 [.p (.list false [.int .i64] x), .p (.int .i64 count)] [] =
  bif (ltI count (0 : Int)) then
    none
  else
    (C 41 [.p (.int .u64 (IntKind.u64.wrap ((x.length : Nat) : Int))), .p (.int .u64 (IntKind.u64.wrap count))] []).bind fun r1 =>
    bif (gtI ((r1.1.headD .undef).pv.toInt) (0 : Int)) then
      none
    else
      bif (gtI ((r1.1.tail.headD .undef).pv.toInt) (9223372036854775807 : Int)) then
        none
      else
        bif ((leI (0 : Int) (IntKind.i64.wrap ((r1.1.tail.headD .undef).pv.toInt))) && ((leI (IntKind.i64.wrap ((r1.1.tail.headD .undef).pv.toInt)) (IntKind.i64.wrap ((r1.1.tail.headD .undef).pv.toInt))) && (leI (IntKind.i64.wrap ((r1.1.tail.headD .undef).pv.toInt)) (2147483648 : Int)))) then L tab C 25 [] [.lp [1, 1, 1, 1, 1, 1, 0, 0]] (S25_11111100 0 ((IntKind.i64.wrap ((r1.1.tail.headD .undef).pv.toInt)).toNat) (((Nat.min x.length ((IntKind.i64.wrap ((r1.1.tail.headD .undef).pv.toInt)).toNat)) : Nat) : Int) (patch (List.replicate ((IntKind.i64.wrap ((r1.1.tail.headD .undef).pv.toInt)).toNat) (PV.int .i64 0)) 0 (x.take (Nat.min x.length ((IntKind.i64.wrap ((r1.1.tail.headD .undef).pv.toInt)).toNat))))) else none := by kernel_rfl
theorem e25_11111100 (C : CallF) (newslice_o : Nat) (newslice_l : Nat) (n_' : Int) (newslice_b : List PV) : R tab C 25 [] [.lp [1, 1, 1, 1, 1, 1, 0, 0]] (S25_11111100 newslice_o newslice_l n_' newslice_b) =
  bif (ltI n_' (newslice_l : Int)) then
    bif ((leI (0 : Int) n_') && ((leI n_' (newslice_l : Int)) && ((leI (newslice_l : Int) (newslice_l : Int)) && (leI (newslice_l : Int) (newslice_l : Int))))) then bif ((leI (0 : Int) n_') && ((leI n_' (newslice_l : Int)) && (leI (newslice_l : Int) (newslice_l : Int)))) then L tab C 25 [] [.lp [1, 1, 1, 1, 1, 1, 0, 0]] (S25_11111100 newslice_o newslice_l (IntKind.i64.wrap (n_' + (((Nat.min ((n_' - (0 : Int)).toNat) (((newslice_l : Int) - n_').toNat)) : Nat) : Int))) (patch newslice_b (newslice_o + n_'.toNat) (((newslice_b.drop (newslice_o + 0)).take ((n_' - (0 : Int)).toNat)).take (Nat.min ((n_' - (0 : Int)).toNat) (((newslice_l : Int) - n_').toNat))))) else none else none
  else
    some ([.fresh false [.int .i64] ((newslice_b.drop newslice_o).take newslice_l)], []) := by kernel_rfl
theorem e26 (C : CallF) (s : List PV) : acallI tab C 26 [.p (.list false [.int .i64] s)] [] =
  bif (Nat.blt 0 s.length) then bif (leN (0 + s.length) 2147483648) then some ([.fresh false [.int .i64] (((([] : List PV) ++ s).drop 0).take (0 + s.length))], []) else none else none := by kernel_rfl
def S27_11010 (t0_r0 : List PV) (best' : Int) (t5' : List PV) (t6' : Int) (t7' : Int) : St := ⟨(.p (.ref [.list false [.int .i64] t0_r0])) :: .undef :: (.p (.int .i64 best')) :: .undef :: .undef :: (.p (.list false [.int .i64] t5')) :: (.p (.int .i64 t6')) :: (.p (.int .i64 t7')) :: List.replicate 13 .undef, []⟩
theorem e27 (C : CallF) (c0 : List PV) : acallI tab C 27 [.p (.ref [.list false [.int .i64] c0])] [] =
  L tab C 27 [] [.lp [1, 1, 0, 1, 0]] (S27_11010 c0 0 c0 ((c0.length : Nat) : Int) 0) := by kernel_rfl
theorem e27_11010 (C : CallF) (t0_r0 : List PV) (best' : Int) (t5' : List PV) (t6' : Int) (t7' : Int) : R tab C 27 [] [.lp [1, 1, 0, 1, 0]] (S27_11010 t0_r0 best' t5' t6' t7') =
  bif (ltI t7' t6') then
    bif ((leI (0 : Int) t7') && (ltI t7' ((t5'.length : Nat) : Int))) then bif ((leI (0 : Int) best') && (ltI best' ((t0_r0.length : Nat) : Int))) then bif (gtI (((t5'.getD t7'.toNat .nil).cell 0).toInt) (((t0_r0.getD best'.toNat .nil).cell 0).toInt)) then
      L tab C 27 [] [.lp [1, 1, 0, 1, 0]] (S27_11010 t0_r0 t7' t5' t6' (IntKind.i64.wrap (t7' + (1 : Int))))
    else
      L tab C 27 [] [.lp [1, 1, 0, 1, 0]] (S27_11010 t0_r0 best' t5' t6' (IntKind.i64.wrap (t7' + (1 : Int)))) else none else none
  else
    some ([.p (.int .i64 best')], []) := by kernel_rfl
theorem e28 (C : CallF) (a_0 : Int) (a_1 : Int) (a_2 : Int) (b_0 : Int) (b_1 : Int) (b_2 : Int) : acallI tab C 28 [.p (.agg [.int .i64 a_0, .int .i64 a_1, .int .i64 a_2]), .p (.agg [.int .i64 b_0, .int .i64 b_1, .int .i64 b_2])] [] =
  (C 42 [.p (.agg [.int .i64 a_0, .int .i64 a_1, .int .i64 a_2]), .p (.agg [.int .i64 b_0, .int .i64 b_1, .int .i64 b_2])] []).bind fun r1 =>
  some ([.p (.int .i64 ((r1.1.headD .undef).pv.toInt))], []) := by kernel_rfl
theorem e31 (C : CallF) (l : List PV) : acallI tab C 31 [.p (.list true [.int .i64, .int .i64, .int .i64] l)] [] =
  bif (leI ((l.length : Nat) : Int) (4096 : Int)) then
    (C 43 [.p (.list true [.int .i64, .int .i64, .int .i64] l), .p (.fn 44 [])] []).bind fun r1 =>
    some ([.p (.bool (!(r1.1.headD .undef).pv.toBool))], [])
  else
    some ([.p (.bool false)], []) := by kernel_rfl
def S32_1010 (l' : List PV) (i' : Int) : St := ⟨(.p (.list true [.int .i64, .int .i64, .int .i64] l')) :: .undef :: .undef :: (.p (.int .i64 i')) :: List.replicate 12 .undef, []⟩
theorem e32 (C : CallF) (l : List PV) : acallI tab C 32 [.p (.list true [.int .i64, .int .i64, .int .i64] l)] [] =
  L tab C 32 [] [.lp [1, 0, 1, 0]] (S32_1010 l 0) := by kernel_rfl
theorem e32_1010 (C : CallF) (l' : List PV) (i' : Int) : R tab C 32 [] [.lp [1, 0, 1, 0]] (S32_1010 l' i') =
  bif (ltI i' ((l'.length : Nat) : Int)) then
    bif ((leI (0 : Int) i') && (ltI i' ((l'.length : Nat) : Int))) then (C 46 [.p (.agg [.int .i64 (((l'.getD i'.toNat .nil).cell 0).toInt), .int .i64 (((l'.getD i'.toNat .nil).cell 1).toInt), .int .i64 (((l'.getD i'.toNat .nil).cell 2).toInt)])] []).bind fun r1 =>
    bif (!(r1.1.headD .undef).pv.toBool) then
      some ([.p (.bool false)], [])
    else
      L tab C 32 [] [.lp [1, 0, 1, 0]] (S32_1010 l' (IntKind.i64.wrap (i' + (1 : Int)))) else none
  else
    some ([.p (.bool true)], []) := by kernel_rfl
def S33_111010 (t12' : List PV) (t13' : Int) (t14' : Int) (b3_b0 : Int) (b11_b : List (PV × PV)) : St := ⟨.undef :: .undef :: (.ptr 2 0 0) :: (.ptr 3 0 0) :: (.ptr 4 0 0) :: .undef :: .undef :: .undef :: .undef :: .undef :: .undef :: .undef :: (.p (.list true [.int .i64, .slice true [.int .i64, .int .i64, .int .i64], .int .i64, .int .i64, .int .i64, .int .i64] t12')) :: (.p (.int .i64 t13')) :: (.p (.int .i64 t14')) :: List.replicate 18 .undef, [(2, .box [.p (.nil)]), (3, .box [.p (.int .i64 b3_b0)]), (11, .mp 72 b11_b), (4, .box [.mref 11])]⟩
def S33_111010_1100110 (t12' : List PV) (t13' : Int) (t14' : Int) (t19 : PV) (b3_b0 : Int) (b11_b : List (PV × PV)) : St := ⟨.undef :: .undef :: (.ptr 2 0 0) :: (.ptr 3 0 0) :: (.ptr 4 0 0) :: .undef :: .undef :: .undef :: .undef :: .undef :: .undef :: .undef :: (.p (.list true [.int .i64, .slice true [.int .i64, .int .i64, .int .i64], .int .i64, .int .i64, .int .i64, .int .i64] t12')) :: (.p (.int .i64 t13')) :: (.p (.int .i64 t14')) :: .undef :: .undef :: .undef :: .undef :: (.p t19) :: List.replicate 13 .undef, [(2, .box [.p (.nil)]), (3, .box [.p (.int .i64 b3_b0)]), (11, .mp 72 b11_b), (4, .box [.mref 11])]⟩
theorem e33 (C : CallF) (f : List PV) : acallI tab C 33 [.p (.list true [.int .i64, .slice true [.int .i64, .int .i64, .int .i64], .int .i64, .int .i64, .int .i64, .int .i64] f)] [] =
  (C 47 [.p (.list true [.int .i64, .slice true [.int .i64, .int .i64, .int .i64], .int .i64, .int .i64, .int .i64, .int .i64] f)] []).bind fun r1 =>
  bif (!(r1.1.headD .undef).pv.toBool) then
    some ([.fresh true [.int .i64, .int .i64, .int .i64] [], .p (.int .i64 2)], [])
  else
    L tab C 33 [] [.lp [1, 1, 1, 0, 1, 0]] (S33_111010 f ((f.length : Nat) : Int) 0 0 ([] : List (PV × PV))) := by kernel_rfl
theorem e33_111010 (C : CallF) (t12' : List PV) (t13' : Int) (t14' : Int) (b3_b0 : Int) (b11_b : List (PV × PV)) : R tab C 33 [] [.lp [1, 1, 1, 0, 1, 0]] (S33_111010 t12' t13' t14' b3_b0 b11_b) =
  bif (ltI t14' t13') then
    bif ((leI (0 : Int) t14') && (ltI t14' ((t12'.length : Nat) : Int))) then (C 48 [.p (.agg [.int .i64 (((t12'.getD t14'.toNat .nil).cell 0).toInt), .list true [.int .i64, .int .i64, .int .i64] (((t12'.getD t14'.toNat .nil).cell 1).toList), .int .i64 (((t12'.getD t14'.toNat .nil).cell 2).toInt), .int .i64 (((t12'.getD t14'.toNat .nil).cell 3).toInt), .int .i64 (((t12'.getD t14'.toNat .nil).cell 4).toInt), .int .i64 (((t12'.getD t14'.toNat .nil).cell 5).toInt)])] []).bind fun r1 =>
    bif (PV.isFn 96 [(true, [.slice true [.int .i64, .int .i64, .int .i64]])] ((r1.1.headD .undef).pv)) then
      (C 96 [.yld, .p (.ref [.list true [.int .i64, .int .i64, .int .i64] ((((r1.1.headD .undef).pv.cap 0).rcell 0).toList)])] [.log true []]).bind fun r2 =>
      L tab C 33 [] [.lp [1, 1, 1, 0, 1, 0], .rg [1, 1, 0, 0, 1, 1, 0] [(true, [.int .i64, .int .i64, .int .i64])] (logOf r2.2)] (S33_111010_1100110 t12' t13' t14' (.fn 96 [.ref [.list true [.int .i64, .int .i64, .int .i64] ((((r1.1.headD .undef).pv.cap 0).rcell 0).toList)]]) b3_b0 b11_b)
    else
      bif (PV.isFn 97 [(true, [.int .i64, .slice true [.int .i64, .int .i64, .int .i64], .int .i64, .int .i64, .int .i64, .int .i64])] ((r1.1.headD .undef).pv)) then
        (C 97 [.yld, .p (.ref [.int .i64 ((((r1.1.headD .undef).pv.cap 0).rcell 0).toInt), .list true [.int .i64, .int .i64, .int .i64] ((((r1.1.headD .undef).pv.cap 0).rcell 1).toList), .int .i64 ((((r1.1.headD .undef).pv.cap 0).rcell 2).toInt), .int .i64 ((((r1.1.headD .undef).pv.cap 0).rcell 3).toInt), .int .i64 ((((r1.1.headD .undef).pv.cap 0).rcell 4).toInt), .int .i64 ((((r1.1.headD .undef).pv.cap 0).rcell 5).toInt)])] [.log true []]).bind fun r3 =>
        L tab C 33 [] [.lp [1, 1, 1, 0, 1, 0], .rg [1, 1, 0, 0, 1, 1, 0] [(true, [.int .i64, .int .i64, .int .i64])] (logOf r3.2)] (S33_111010_1100110 t12' t13' t14' (.fn 97 [.ref [.int .i64 ((((r1.1.headD .undef).pv.cap 0).rcell 0).toInt), .list true [.int .i64, .int .i64, .int .i64] ((((r1.1.headD .undef).pv.cap 0).rcell 1).toList), .int .i64 ((((r1.1.headD .undef).pv.cap 0).rcell 2).toInt), .int .i64 ((((r1.1.headD .undef).pv.cap 0).rcell 3).toInt), .int .i64 ((((r1.1.headD .undef).pv.cap 0).rcell 4).toInt), .int .i64 ((((r1.1.headD .undef).pv.cap 0).rcell 5).toInt)]]) b3_b0 b11_b)
      else
        bif (PV.isFn 99 [(true, [.int .i64, .slice true [.int .i64, .int .i64, .int .i64], .int .i64, .int .i64, .int .i64, .int .i64])] ((r1.1.headD .undef).pv)) then (C 99 [.yld, .p (.ref [.int .i64 ((((r1.1.headD .undef).pv.cap 0).rcell 0).toInt), .list true [.int .i64, .int .i64, .int .i64] ((((r1.1.headD .undef).pv.cap 0).rcell 1).toList), .int .i64 ((((r1.1.headD .undef).pv.cap 0).rcell 2).toInt), .int .i64 ((((r1.1.headD .undef).pv.cap 0).rcell 3).toInt), .int .i64 ((((r1.1.headD .undef).pv.cap 0).rcell 4).toInt), .int .i64 ((((r1.1.headD .undef).pv.cap 0).rcell 5).toInt)])] [.log true []]).bind fun r4 =>
        L tab C 33 [] [.lp [1, 1, 1, 0, 1, 0], .rg [1, 1, 0, 0, 1, 1, 0] [(true, [.int .i64, .int .i64, .int .i64])] (logOf r4.2)] (S33_111010_1100110 t12' t13' t14' (.fn 99 [.ref [.int .i64 ((((r1.1.headD .undef).pv.cap 0).rcell 0).toInt), .list true [.int .i64, .int .i64, .int .i64] ((((r1.1.headD .undef).pv.cap 0).rcell 1).toList), .int .i64 ((((r1.1.headD .undef).pv.cap 0).rcell 2).toInt), .int .i64 ((((r1.1.headD .undef).pv.cap 0).rcell 3).toInt), .int .i64 ((((r1.1.headD .undef).pv.cap 0).rcell 4).toInt), .int .i64 ((((r1.1.headD .undef).pv.cap 0).rcell 5).toInt)]]) b3_b0 b11_b) else none else none
  else
    bif (gtI ((b11_b.length : Nat) : Int) (4096 : Int)) then
      some ([.fresh true [.int .i64, .int .i64, .int .i64] [], .p (.int .i64 7)], [])
    else
      (C 50 [.p (.mapv (b11_b.map (fun x => x.1)) (b11_b.map (fun x => x.2)))] []).bind fun r5 =>
      (C 49 [.p (.fn 77 [.ref [(((r5.1.headD .undef).pv.cap 0).rcell 0)]]), .p (.fn 35 [])] []).bind fun r6 =>
      some ([.fresh true [.int .i64, .int .i64, .int .i64] ((((r6.1.headD .undef).freshList).drop 0).take ((r6.1.headD .undef).freshList.length)), .p (.int .i64 0)], []) := by kernel_rfl
theorem e33_111010_1100110_nil (C : CallF) (t12' : List PV) (t13' : Int) (t14' : Int) (t19 : PV) (b3_b0 : Int) (b11_b : List (PV × PV)) : L tab C 33 [] [.lp [1, 1, 1, 0, 1, 0], .rg [1, 1, 0, 0, 1, 1, 0] [(true, [.int .i64, .int .i64, .int .i64])] []] (S33_111010_1100110 t12' t13' t14' t19 b3_b0 b11_b) =
  L tab C 33 [] [.lp [1, 1, 1, 0, 1, 0]] (S33_111010 t12' t13' (IntKind.i64.wrap (t14' + (1 : Int))) b3_b0 b11_b) := by kernel_rfl
theorem e33_111010_1100110_cons (C : CallF) (t12' : List PV) (t13' : Int) (t14' : Int) (t19 : PV) (b3_b0 : Int) (b11_b : List (PV × PV)) (y0_0 : Int) (y0_1 : Int) (y0_2 : Int) (ys : List PV) : L tab C 33 [] [.lp [1, 1, 1, 0, 1, 0], .rg [1, 1, 0, 0, 1, 1, 0] [(true, [.int .i64, .int .i64, .int .i64])] (.agg [.agg [.int .i64 y0_0, .int .i64 y0_1, .int .i64 y0_2]] :: ys)] (S33_111010_1100110 t12' t13' t14' t19 b3_b0 b11_b) =
  (C 45 [.p (.agg [.int .i64 y0_0, .int .i64 y0_1, .int .i64 y0_2])] []).bind fun r1 =>
  bif (!(r1.1.headD .undef).pv.toBool) then
    some ([.fresh true [.int .i64, .int .i64, .int .i64] [], .p (.int .i64 3)], [])
  else
    bif (mapFind tab 31 [.int .i64 y0_0, .int .i64 y0_1, .int .i64 y0_2] b11_b).isSome then L tab C 33 [] [.lp [1, 1, 1, 0, 1, 0], .rg [1, 1, 0, 0, 1, 1, 0] [(true, [.int .i64, .int .i64, .int .i64])] ys] (S33_111010_1100110 t12' t13' t14' t19 b3_b0 (mapPut b11_b (PV.agg [.int .i64 y0_0, .int .i64 y0_1, .int .i64 y0_2]) (PV.bool true) ((mapFind tab 31 [.int .i64 y0_0, .int .i64 y0_1, .int .i64 y0_2] b11_b).getD none))) else none := by kernel_rfl
theorem e35 (C : CallF) (a_0 : Int) (a_1 : Int) (a_2 : Int) (b_0 : Int) (b_1 : Int) (b_2 : Int) : acallI tab C 35 [.p (.agg [.int .i64 a_0, .int .i64 a_1, .int .i64 a_2]), .p (.agg [.int .i64 b_0, .int .i64 b_1, .int .i64 b_2])] [] =
  (C 53 [.p (.agg [.int .i64 a_0, .int .i64 a_1, .int .i64 a_2])] []).bind fun r1 =>
  (C 53 [.p (.agg [.int .i64 b_0, .int .i64 b_1, .int .i64 b_2])] []).bind fun r2 =>
  (C 54 [.p (.list false [.int .i64] [.int .i64 (((r1.1.headD .undef).pv.cell 0).toInt), .int .i64 (((r1.1.headD .undef).pv.cell 1).toInt), .int .i64 (((r1.1.headD .undef).pv.cell 2).toInt)]), .p (.list false [.int .i64] [.int .i64 (((r2.1.headD .undef).pv.cell 0).toInt), .int .i64 (((r2.1.headD .undef).pv.cell 1).toInt), .int .i64 (((r2.1.headD .undef).pv.cell 2).toInt)])] []).bind fun r3 =>
  some ([.p (.int .i64 ((r3.1.headD .undef).pv.toInt))], []) := by kernel_rfl
def S38_1010 (i' : Int) (a_b0 : Int) (a_b1 : Int) (a_b2 : Int) (b_b0 : Int) (b_b1 : Int) (b_b2 : Int) : St := ⟨.undef :: .undef :: (.ptr 2 0 0) :: (.ptr 3 0 0) :: .undef :: (.p (.int .i64 i')) :: List.replicate 18 .undef, [(2, .box [.p (.int .i64 a_b0), .p (.int .i64 a_b1), .p (.int .i64 a_b2)]), (3, .box [.p (.int .i64 b_b0), .p (.int .i64 b_b1), .p (.int .i64 b_b2)])]⟩
theorem e38 (C : CallF) (a_0 : Int) (a_1 : Int) (a_2 : Int) (b_0 : Int) (b_1 : Int) (b_2 : Int) : acallI tab C 38 [.p (.agg [.int .i64 a_0, .int .i64 a_1, .int .i64 a_2]), .p (.agg [.int .i64 b_0, .int .i64 b_1, .int .i64 b_2])] [] =
  L tab C 38 [] [.lp [1, 0, 1, 0]] (S38_1010 0 a_0 a_1 a_2 b_0 b_1 b_2) := by kernel_rfl
theorem e38_1010 (C : CallF) (i' : Int) (a_b0 : Int) (a_b1 : Int) (a_b2 : Int) (b_b0 : Int) (b_b1 : Int) (b_b2 : Int) : R tab C 38 [] [.lp [1, 0, 1, 0]] (S38_1010 i' a_b0 a_b1 a_b2 b_b0 b_b1 b_b2) =
  bif (ltI i' (3 : Int)) then
    (C 58 [.p (.agg [.int .i64 a_b0, .int .i64 a_b1, .int .i64 a_b2]), .p (.int .i64 i')] []).bind fun r1 =>
    (C 58 [.p (.agg [.int .i64 b_b0, .int .i64 b_b1, .int .i64 b_b2]), .p (.int .i64 i')] []).bind fun r2 =>
    bif (ltI ((r1.1.headD .undef).pv.toInt) ((r2.1.headD .undef).pv.toInt)) then
      some ([.p (.int .i64 (-1))], [])
    else
      (C 58 [.p (.agg [.int .i64 a_b0, .int .i64 a_b1, .int .i64 a_b2]), .p (.int .i64 i')] []).bind fun r3 =>
      (C 58 [.p (.agg [.int .i64 b_b0, .int .i64 b_b1, .int .i64 b_b2]), .p (.int .i64 i')] []).bind fun r4 =>
      bif (gtI ((r3.1.headD .undef).pv.toInt) ((r4.1.headD .undef).pv.toInt)) then
        some ([.p (.int .i64 1)], [])
      else
        L tab C 38 [] [.lp [1, 0, 1, 0]] (S38_1010 (IntKind.i64.wrap (i' + (1 : Int))) a_b0 a_b1 a_b2 b_b0 b_b1 b_b2)
  else
    some ([.p (.int .i64 0)], []) := by kernel_rfl
def S39_11010 (sum' : Int) (i' : Int) (a_b0 : Int) (a_b1 : Int) (a_b2 : Int) (b_b0 : Int) (b_b1 : Int) (b_b2 : Int) : St := ⟨.undef :: .undef :: (.ptr 2 0 0) :: (.ptr 3 0 0) :: .undef :: (.p (.int .i64 sum')) :: (.p (.int .i64 i')) :: List.replicate 14 .undef, [(2, .box [.p (.int .i64 a_b0), .p (.int .i64 a_b1), .p (.int .i64 a_b2)]), (3, .box [.p (.int .i64 b_b0), .p (.int .i64 b_b1), .p (.int .i64 b_b2)])]⟩
theorem e39 (C : CallF) (a_0 : Int) (a_1 : Int) (a_2 : Int) (b_0 : Int) (b_1 : Int) (b_2 : Int) : acallI tab C 39 [.p (.agg [.int .i64 a_0, .int .i64 a_1, .int .i64 a_2]), .p (.agg [.int .i64 b_0, .int .i64 b_1, .int .i64 b_2])] [] =
  L tab C 39 [] [.lp [1, 1, 0, 1, 0]] (S39_11010 0 0 a_0 a_1 a_2 b_0 b_1 b_2) := by kernel_rfl
theorem e39_11010 (C : CallF) (sum' : Int) (i' : Int) (a_b0 : Int) (a_b1 : Int) (a_b2 : Int) (b_b0 : Int) (b_b1 : Int) (b_b2 : Int) : R tab C 39 [] [.lp [1, 1, 0, 1, 0]] (S39_11010 sum' i' a_b0 a_b1 a_b2 b_b0 b_b1 b_b2) =
  bif (ltI i' (3 : Int)) then
    (C 58 [.p (.agg [.int .i64 a_b0, .int .i64 a_b1, .int .i64 a_b2]), .p (.int .i64 i')] []).bind fun r1 =>
    (C 58 [.p (.agg [.int .i64 b_b0, .int .i64 b_b1, .int .i64 b_b2]), .p (.int .i64 i')] []).bind fun r2 =>
    L tab C 39 [] [.lp [1, 1, 0, 1, 0]] (S39_11010 (IntKind.i64.wrap (sum' + (IntKind.i64.wrap ((r1.1.headD .undef).pv.toInt * (r2.1.headD .undef).pv.toInt)))) (IntKind.i64.wrap (i' + (1 : Int))) a_b0 a_b1 a_b2 b_b0 b_b1 b_b2)
  else
    some ([.p (.int .i64 sum')], []) := by kernel_rfl
theorem e40 (C : CallF) (a_0 : Int) (a_1 : Int) (a_2 : Int) (b_0 : Int) (b_1 : Int) (b_2 : Int) : acallI tab C 40 [.p (.agg [.int .i64 a_0, .int .i64 a_1, .int .i64 a_2]), .p (.agg [.int .i64 b_0, .int .i64 b_1, .int .i64 b_2])] [] =
  (C 60 [.p (.agg [.int .i64 b_0, .int .i64 b_1, .int .i64 b_2])] []).bind fun r1 =>
  (C 59 [.p (.agg [.int .i64 a_0, .int .i64 a_1, .int .i64 a_2]), .p (.agg [.int .i64 (((r1.1.headD .undef).pv.cell 0).toInt), .int .i64 (((r1.1.headD .undef).pv.cell 1).toInt), .int .i64 (((r1.1.headD .undef).pv.cell 2).toInt)])] []).bind fun r2 =>
  some ([.p (.agg [.int .i64 (((r2.1.headD .undef).pv.cell 0).toInt), .int .i64 (((r2.1.headD .undef).pv.cell 1).toInt), .int .i64 (((r2.1.headD .undef).pv.cell 2).toInt)])], []) := by kernel_rfl
theorem e41 (C : CallF) (x : Int) (y : Int) : acallI tab C 41 [.p (.int .u64 x), .p (.int .u64 y)] [] =
  (C 62 [.p (.int .u64 x), .p (.int .u64 y)] []).bind fun r1 =>
  some ([.p (.int .u64 ((r1.1.headD .undef).pv.toInt)), .p (.int .u64 ((r1.1.tail.headD .undef).pv.toInt))], []) := by kernel_rfl
theorem e42 (C : CallF) (a_0 : Int) (a_1 : Int) (a_2 : Int) (b_0 : Int) (b_1 : Int) (b_2 : Int) : acallI tab C 42 [.p (.agg [.int .i64 a_0, .int .i64 a_1, .int .i64 a_2]), .p (.agg [.int .i64 b_0, .int .i64 b_1, .int .i64 b_2])] [] =
  (C 63 [.p (.agg [.int .i64 a_0, .int .i64 a_1, .int .i64 a_2])] []).bind fun r1 =>
  bif (!(r1.1.headD .undef).pv.toBool) then
    some ([.p (.int .i64 0), .p (.int .i64 2)], [])
  else
    (C 63 [.p (.agg [.int .i64 b_0, .int .i64 b_1, .int .i64 b_2])] []).bind fun r2 =>
    bif (!(r2.1.headD .undef).pv.toBool) then
      some ([.p (.int .i64 0), .p (.int .i64 2)], [])
    else
      (C 64 [.p (.agg [.int .i64 a_0, .int .i64 a_1, .int .i64 a_2]), .p (.agg [.int .i64 b_0, .int .i64 b_1, .int .i64 b_2]), .p (.fn 65 [])] []).bind fun r3 =>
      (C 66 [.p (.agg [.int .i64 (((r3.1.headD .undef).pv.cell 0).toInt), .int .i64 (((r3.1.headD .undef).pv.cell 1).toInt), .int .i64 (((r3.1.headD .undef).pv.cell 2).toInt)]), .p (.agg [.int .i64 (((r3.1.headD .undef).pv.cell 0).toInt), .int .i64 (((r3.1.headD .undef).pv.cell 1).toInt), .int .i64 (((r3.1.headD .undef).pv.cell 2).toInt)])] []).bind fun r4 =>
      some ([.p (.int .i64 ((r4.1.headD .undef).pv.toInt)), .p (.int .i64 0)], []) := by kernel_rfl
theorem e43p (C : CallF) (s : List PV) : acallI tab C 43 [.p (.list true [.int .i64, .int .i64, .int .i64] s), .p (.fn 44 [])] [] =
  (C 67 [.p (.list true [.int .i64, .int .i64, .int .i64] s), .p (.fn 44 [])] []).bind fun r1 =>
  some ([.p (.bool (geI ((r1.1.headD .undef).pv.toInt) (0 : Int)))], []) := by kernel_rfl
theorem e43v (C : CallF) (s : List PV) : acallI tab C 43 [.p (.list true [.int .i64, .int .i64, .int .i64] s), .p (.fn 95 [])] [] =
  (C 67 [.p (.list true [.int .i64, .int .i64, .int .i64] s), .p (.fn 95 [])] []).bind fun r1 =>
  some ([.p (.bool (geI ((r1.1.headD .undef).pv.toInt) (0 : Int)))], []) := by kernel_rfl
theorem e44 (C : CallF) (v_0 : Int) (v_1 : Int) (v_2 : Int) : acallI tab C 44 [.p (.agg [.int .i64 v_0, .int .i64 v_1, .int .i64 v_2])] [] =
  (C 45 [.p (.agg [.int .i64 v_0, .int .i64 v_1, .int .i64 v_2])] []).bind fun r1 =>
  some ([.p (.bool (!(r1.1.headD .undef).pv.toBool))], []) := by kernel_rfl
theorem e45 (C : CallF) (v_0 : Int) (v_1 : Int) (v_2 : Int) : acallI tab C 45 [.p (.agg [.int .i64 v_0, .int .i64 v_1, .int .i64 v_2])] [] =
  (C 68 [.p (.int .i64 1048576), .p (.list false [.int .i64] [.int .i64 v_0, .int .i64 v_1, .int .i64 v_2])] []).bind fun r1 =>
  some ([.p (.bool ((r1.1.headD .undef).pv.toBool))], []) := by kernel_rfl
theorem e46 (C : CallF) (v_0 : Int) (v_1 : Int) (v_2 : Int) : acallI tab C 46 [.p (.agg [.int .i64 v_0, .int .i64 v_1, .int .i64 v_2])] [] =
  (C 69 [.p (.agg [.int .i64 v_0, .int .i64 v_1, .int .i64 v_2]), .p (.int .i64 1048576)] []).bind fun r1 =>
  some ([.p (.bool ((r1.1.headD .undef).pv.toBool))], []) := by kernel_rfl
theorem e47 (C : CallF) (f : List PV) : acallI tab C 47 [.p (.list true [.int .i64, .slice true [.int .i64, .int .i64, .int .i64], .int .i64, .int .i64, .int .i64, .int .i64] f)] [] =
  bif (leI ((f.length : Nat) : Int) (50 : Int)) then
    (C 70 [.p (.list true [.int .i64, .slice true [.int .i64, .int .i64, .int .i64], .int .i64, .int .i64, .int .i64, .int .i64] f), .p (.fn 71 [])] []).bind fun r1 =>
    some ([.p (.bool (!(r1.1.headD .undef).pv.toBool))], [])
  else
    some ([.p (.bool false)], []) := by kernel_rfl
theorem e48 (C : CallF) (s_0 : Int) (s_1 : List PV) (s_2 : Int) (s_3 : Int) (s_4 : Int) (s_5 : Int) : acallI tab C 48 [.p (.agg [.int .i64 s_0, .list true [.int .i64, .int .i64, .int .i64] s_1, .int .i64 s_2, .int .i64 s_3, .int .i64 s_4, .int .i64 s_5])] [] =
  bif (s_0 == (1 : Int)) then
    (C 73 [.p (.list true [.int .i64, .int .i64, .int .i64] s_1)] []).bind fun r1 =>
    some ([.p (.fn 96 [.ref [.list true [.int .i64, .int .i64, .int .i64] ((((r1.1.headD .undef).pv.cap 0).rcell 0).toList)]])], [])
  else
    bif (s_0 == (2 : Int)) then
      bif (s_0 == (2 : Int)) then
        (C 74 [.p (.agg [.int .i64 s_0, .list true [.int .i64, .int .i64, .int .i64] s_1, .int .i64 s_2, .int .i64 s_3, .int .i64 s_4, .int .i64 s_5])] []).bind fun r2 =>
        some ([.p (.fn 97 [.ref [.int .i64 ((((r2.1.headD .undef).pv.cap 0).rcell 0).toInt), .list true [.int .i64, .int .i64, .int .i64] ((((r2.1.headD .undef).pv.cap 0).rcell 1).toList), .int .i64 ((((r2.1.headD .undef).pv.cap 0).rcell 2).toInt), .int .i64 ((((r2.1.headD .undef).pv.cap 0).rcell 3).toInt), .int .i64 ((((r2.1.headD .undef).pv.cap 0).rcell 4).toInt), .int .i64 ((((r2.1.headD .undef).pv.cap 0).rcell 5).toInt)]])], [])
      else
        (C 75 [.p (.agg [.int .i64 s_0, .list true [.int .i64, .int .i64, .int .i64] s_1, .int .i64 s_2, .int .i64 s_3, .int .i64 s_4, .int .i64 s_5])] []).bind fun r3 =>
        some ([.p (.fn 99 [.ref [.int .i64 ((((r3.1.headD .undef).pv.cap 0).rcell 0).toInt), .list true [.int .i64, .int .i64, .int .i64] ((((r3.1.headD .undef).pv.cap 0).rcell 1).toList), .int .i64 ((((r3.1.headD .undef).pv.cap 0).rcell 2).toInt), .int .i64 ((((r3.1.headD .undef).pv.cap 0).rcell 3).toInt), .int .i64 ((((r3.1.headD .undef).pv.cap 0).rcell 4).toInt), .int .i64 ((((r3.1.headD .undef).pv.cap 0).rcell 5).toInt)]])], [])
    else
      bif (s_0 == (3 : Int)) then
        (C 74 [.p (.agg [.int .i64 s_0, .list true [.int .i64, .int .i64, .int .i64] s_1, .int .i64 s_2, .int .i64 s_3, .int .i64 s_4, .int .i64 s_5])] []).bind fun r4 =>
        some ([.p (.fn 97 [.ref [.int .i64 ((((r4.1.headD .undef).pv.cap 0).rcell 0).toInt), .list true [.int .i64, .int .i64, .int .i64] ((((r4.1.headD .undef).pv.cap 0).rcell 1).toList), .int .i64 ((((r4.1.headD .undef).pv.cap 0).rcell 2).toInt), .int .i64 ((((r4.1.headD .undef).pv.cap 0).rcell 3).toInt), .int .i64 ((((r4.1.headD .undef).pv.cap 0).rcell 4).toInt), .int .i64 ((((r4.1.headD .undef).pv.cap 0).rcell 5).toInt)]])], [])
      else
        (C 75 [.p (.agg [.int .i64 s_0, .list true [.int .i64, .int .i64, .int .i64] s_1, .int .i64 s_2, .int .i64 s_3, .int .i64 s_4, .int .i64 s_5])] []).bind fun r5 =>
        some ([.p (.fn 99 [.ref [.int .i64 ((((r5.1.headD .undef).pv.cap 0).rcell 0).toInt), .list true [.int .i64, .int .i64, .int .i64] ((((r5.1.headD .undef).pv.cap 0).rcell 1).toList), .int .i64 ((((r5.1.headD .undef).pv.cap 0).rcell 2).toInt), .int .i64 ((((r5.1.headD .undef).pv.cap 0).rcell 3).toInt), .int .i64 ((((r5.1.headD .undef).pv.cap 0).rcell 4).toInt), .int .i64 ((((r5.1.headD .undef).pv.cap 0).rcell 5).toInt)]])], []) := by kernel_rfl
theorem e50 (C : CallF) (mk : List PV) (mv : List PV) : acallI tab C 50 [.p (.mapv mk mv)] [] =
  some ([.p (.fn 77 [.ref [.mapv mk mv]])], []) := by kernel_rfl
theorem e53 (C : CallF) (v_0 : Int) (v_1 : Int) (v_2 : Int) : acallI tab C 53 [.p (.agg [.int .i64 v_0, .int .i64 v_1, .int .i64 v_2])] [] =
  some ([.p (.agg [.int .i64 v_0, .int .i64 v_1, .int .i64 v_2])], []) := by kernel_rfl
def S54_1010 (s1' : List PV) (s2' : List PV) (t9' : List PV) (t10' : Int) (t11' : Int) : St := ⟨(.p (.list false [.int .i64] s1')) :: (.p (.list false [.int .i64] s2')) :: .undef :: .undef :: .undef :: .undef :: .undef :: .undef :: .undef :: (.p (.list false [.int .i64] t9')) :: (.p (.int .i64 t10')) :: (.p (.int .i64 t11')) :: List.replicate 24 .undef, []⟩
theorem e54 (C : CallF) (s1 : List PV) (s2 : List PV) : acallI tab C 54 [.p (.list false [.int .i64] s1), .p (.list false [.int .i64] s2)] [] =
  L tab C 54 [] [.lp [1, 0, 1, 0]] (S54_1010 s1 s2 s1 ((s1.length : Nat) : Int) 0) := by kernel_rfl
theorem e54_1010 (C : CallF) (s1' : List PV) (s2' : List PV) (t9' : List PV) (t10' : Int) (t11' : Int) : R tab C 54 [] [.lp [1, 0, 1, 0]] (S54_1010 s1' s2' t9' t10' t11') =
  bif (ltI t11' t10') then
    bif ((leI (0 : Int) t11') && (ltI t11' ((t9'.length : Nat) : Int))) then bif (geI t11' ((s2'.length : Nat) : Int)) then
      some ([.p (.int .i64 1)], [])
    else
      bif ((leI (0 : Int) t11') && (ltI t11' ((s2'.length : Nat) : Int))) then (C 88 [.p (.int .i64 (((t9'.getD t11'.toNat .nil).cell 0).toInt)), .p (.int .i64 (((s2'.getD t11'.toNat .nil).cell 0).toInt))] []).bind fun r1 =>
      bif ((r1.1.headD .undef).pv.toInt != (0 : Int)) then
        some ([.p (.int .i64 ((r1.1.headD .undef).pv.toInt))], [])
      else
        L tab C 54 [] [.lp [1, 0, 1, 0]] (S54_1010 s1' s2' t9' t10' (IntKind.i64.wrap (t11' + (1 : Int)))) else none else none
  else
    bif (ltI ((s1'.length : Nat) : Int) ((s2'.length : Nat) : Int)) then
      some ([.p (.int .i64 (-1))], [])
    else
      some ([.p (.int .i64 0)], []) := by kernel_rfl
theorem e58 (C : CallF) (v_0 : Int) (v_1 : Int) (v_2 : Int) (i : Int) : acallI tab C 58 [.p (.agg [.int .i64 v_0, .int .i64 v_1, .int .i64 v_2]), .p (.int .i64 i)] [] =
  bif (i == (0 : Int)) then
    some ([.p (.int .i64 v_0)], [])
  else
    bif (i == (1 : Int)) then
      some ([.p (.int .i64 v_1)], [])
    else
      some ([.p (.int .i64 v_2)], []) := by kernel_rfl
theorem e59 (C : CallF) (a_0 : Int) (a_1 : Int) (a_2 : Int) (b_0 : Int) (b_1 : Int) (b_2 : Int) : acallI tab C 59 [.p (.agg [.int .i64 a_0, .int .i64 a_1, .int .i64 a_2]), .p (.agg [.int .i64 b_0, .int .i64 b_1, .int .i64 b_2])] [] =
  some ([.p (.agg [.int .i64 (IntKind.i64.wrap (a_0 + b_0)), .int .i64 (IntKind.i64.wrap (a_1 + b_1)), .int .i64 (IntKind.i64.wrap (a_2 + b_2))])], []) := by kernel_rfl
theorem e60 (C : CallF) (v_0 : Int) (v_1 : Int) (v_2 : Int) : acallI tab C 60 [.p (.agg [.int .i64 v_0, .int .i64 v_1, .int .i64 v_2])] [] =
  some ([.p (.agg [.int .i64 (IntKind.i64.wrap (0 - v_0)), .int .i64 (IntKind.i64.wrap (0 - v_1)), .int .i64 (IntKind.i64.wrap (0 - v_2))])], []) := by kernel_rfl
theorem e62 (C : CallF) (x : Int) (y : Int) : acallI tab C 62 [.p (.int .u64 x), .p (.int .u64 y)] [] =
  some ([.p (.int .u64 (IntKind.u64.wrap ((IntKind.u64.wrap ((IntKind.u64.wrap ((x.fdiv (2 ^ 32)) * (y.fdiv (2 ^ 32)))) + ((IntKind.u64.wrap ((IntKind.u64.wrap ((x.fdiv (2 ^ 32)) * (IntKind.u64.wrap (((BitVec.ofInt IntKind.u64.bits y) &&& (BitVec.ofInt IntKind.u64.bits (4294967295 : Int))).toNat : Nat)))) + ((IntKind.u64.wrap ((IntKind.u64.wrap (((BitVec.ofInt IntKind.u64.bits x) &&& (BitVec.ofInt IntKind.u64.bits (4294967295 : Int))).toNat : Nat)) * (IntKind.u64.wrap (((BitVec.ofInt IntKind.u64.bits y) &&& (BitVec.ofInt IntKind.u64.bits (4294967295 : Int))).toNat : Nat)))).fdiv (2 ^ 32)))).fdiv (2 ^ 32)))) + ((IntKind.u64.wrap ((IntKind.u64.wrap (((BitVec.ofInt IntKind.u64.bits (IntKind.u64.wrap ((IntKind.u64.wrap ((x.fdiv (2 ^ 32)) * (IntKind.u64.wrap (((BitVec.ofInt IntKind.u64.bits y) &&& (BitVec.ofInt IntKind.u64.bits (4294967295 : Int))).toNat : Nat)))) + ((IntKind.u64.wrap ((IntKind.u64.wrap (((BitVec.ofInt IntKind.u64.bits x) &&& (BitVec.ofInt IntKind.u64.bits (4294967295 : Int))).toNat : Nat)) * (IntKind.u64.wrap (((BitVec.ofInt IntKind.u64.bits y) &&& (BitVec.ofInt IntKind.u64.bits (4294967295 : Int))).toNat : Nat)))).fdiv (2 ^ 32))))) &&& (BitVec.ofInt IntKind.u64.bits (4294967295 : Int))).toNat : Nat)) + (IntKind.u64.wrap ((IntKind.u64.wrap (((BitVec.ofInt IntKind.u64.bits x) &&& (BitVec.ofInt IntKind.u64.bits (4294967295 : Int))).toNat : Nat)) * (y.fdiv (2 ^ 32)))))).fdiv (2 ^ 32))))), .p (.int .u64 (IntKind.u64.wrap (x * y)))], []) := by kernel_rfl
theorem e63 (C : CallF) (v_0 : Int) (v_1 : Int) (v_2 : Int) : acallI tab C 63 [.p (.agg [.int .i64 v_0, .int .i64 v_1, .int .i64 v_2])] [] =
  (C 68 [.p (.int .i64 16777216), .p (.list false [.int .i64] [.int .i64 v_0, .int .i64 v_1, .int .i64 v_2])] []).bind fun r1 =>
  some ([.p (.bool ((r1.1.headD .undef).pv.toBool))], []) := by kernel_rfl
theorem e64d (C : CallF) (a_0 : Int) (a_1 : Int) (a_2 : Int) (b_0 : Int) (b_1 : Int) (b_2 : Int) : acallI tab C 64 [.p (.agg [.int .i64 a_0, .int .i64 a_1, .int .i64 a_2]), .p (.agg [.int .i64 b_0, .int .i64 b_1, .int .i64 b_2]), .p (.fn 65 [])] [] =
  (C 65 [.p (.int .i64 a_0), .p (.int .i64 b_0)] []).bind fun r1 =>
  (C 65 [.p (.int .i64 a_1), .p (.int .i64 b_1)] []).bind fun r2 =>
  (C 65 [.p (.int .i64 a_2), .p (.int .i64 b_2)] []).bind fun r3 =>
  some ([.p (.agg [.int .i64 ((r1.1.headD .undef).pv.toInt), .int .i64 ((r2.1.headD .undef).pv.toInt), .int .i64 ((r3.1.headD .undef).pv.toInt)])], []) := by kernel_rfl
theorem e64b (C : CallF) (a_0 : Int) (a_1 : Int) (a_2 : Int) (b_0 : Int) (b_1 : Int) (b_2 : Int) (num_ : Int) (den_ : Int) : acallI tab C 64 [.p (.agg [.int .i64 a_0, .int .i64 a_1, .int .i64 a_2]), .p (.agg [.int .i64 b_0, .int .i64 b_1, .int .i64 b_2]), .p (.fn 108 [.ref [.int .i64 num_], .ref [.int .i64 den_]])] [] =
  (C 108 [.p (.int .i64 a_0), .p (.int .i64 b_0), .p (.ref [.int .i64 num_]), .p (.ref [.int .i64 den_])] []).bind fun r1 =>
  (C 108 [.p (.int .i64 a_1), .p (.int .i64 b_1), .p (.ref [.int .i64 num_]), .p (.ref [.int .i64 den_])] []).bind fun r2 =>
  (C 108 [.p (.int .i64 a_2), .p (.int .i64 b_2), .p (.ref [.int .i64 num_]), .p (.ref [.int .i64 den_])] []).bind fun r3 =>
  some ([.p (.agg [.int .i64 ((r1.1.headD .undef).pv.toInt), .int .i64 ((r2.1.headD .undef).pv.toInt), .int .i64 ((r3.1.headD .undef).pv.toInt)])], []) := by kernel_rfl
theorem e65 (C : CallF) (x : Int) (y : Int) : acallI tab C 65 [.p (.int .i64 x), .p (.int .i64 y)] [] =
  some ([.p (.int .i64 (IntKind.i64.wrap (x - y)))], []) := by kernel_rfl
theorem e66 (C : CallF) (a_0 : Int) (a_1 : Int) (a_2 : Int) (b_0 : Int) (b_1 : Int) (b_2 : Int) : acallI tab C 66 [.p (.agg [.int .i64 a_0, .int .i64 a_1, .int .i64 a_2]), .p (.agg [.int .i64 b_0, .int .i64 b_1, .int .i64 b_2])] [] =
  some ([.p (.int .i64 (IntKind.i64.wrap ((IntKind.i64.wrap ((IntKind.i64.wrap (a_0 * b_0)) + (IntKind.i64.wrap (a_1 * b_1)))) + (IntKind.i64.wrap (a_2 * b_2)))))], []) := by kernel_rfl
def S67_1010p (s' : List PV) (t7' : Int) (t8' : Int) : St := ⟨(.p (.list true [.int .i64, .int .i64, .int .i64] s')) :: (.p (.fn 44 [])) :: .undef :: .undef :: .undef :: .undef :: .undef :: (.p (.int .i64 t7')) :: (.p (.int .i64 t8')) :: List.replicate 10 .undef, []⟩
theorem e67p (C : CallF) (s : List PV) : acallI tab C 67 [.p (.list true [.int .i64, .int .i64, .int .i64] s), .p (.fn 44 [])] [] =
  L tab C 67 [] [.lp [1, 0, 1, 0]] (S67_1010p s ((s.length : Nat) : Int) 0) := by kernel_rfl
theorem e67_1010p (C : CallF) (s' : List PV) (t7' : Int) (t8' : Int) : R tab C 67 [] [.lp [1, 0, 1, 0]] (S67_1010p s' t7' t8') =
  bif (ltI t8' t7') then
    bif ((leI (0 : Int) t8') && (ltI t8' ((s'.length : Nat) : Int))) then (C 44 [.p (.agg [.int .i64 (((s'.getD t8'.toNat .nil).cell 0).toInt), .int .i64 (((s'.getD t8'.toNat .nil).cell 1).toInt), .int .i64 (((s'.getD t8'.toNat .nil).cell 2).toInt)])] []).bind fun r1 =>
    bif (r1.1.headD .undef).pv.toBool then
      some ([.p (.int .i64 t8')], [])
    else
      L tab C 67 [] [.lp [1, 0, 1, 0]] (S67_1010p s' t7' (IntKind.i64.wrap (t8' + (1 : Int)))) else none
  else
    some ([.p (.int .i64 (-1))], []) := by kernel_rfl
def S67_1010v (s' : List PV) (t7' : Int) (t8' : Int) : St := ⟨(.p (.list true [.int .i64, .int .i64, .int .i64] s')) :: (.p (.fn 95 [])) :: .undef :: .undef :: .undef :: .undef :: .undef :: (.p (.int .i64 t7')) :: (.p (.int .i64 t8')) :: List.replicate 10 .undef, []⟩
theorem e67v (C : CallF) (s : List PV) : acallI tab C 67 [.p (.list true [.int .i64, .int .i64, .int .i64] s), .p (.fn 95 [])] [] =
  L tab C 67 [] [.lp [1, 0, 1, 0]] (S67_1010v s ((s.length : Nat) : Int) 0) := by kernel_rfl
theorem e67_1010v (C : CallF) (s' : List PV) (t7' : Int) (t8' : Int) : R tab C 67 [] [.lp [1, 0, 1, 0]] (S67_1010v s' t7' t8') =
  bif (ltI t8' t7') then
    bif ((leI (0 : Int) t8') && (ltI t8' ((s'.length : Nat) : Int))) then (C 95 [.p (.agg [.int .i64 (((s'.getD t8'.toNat .nil).cell 0).toInt), .int .i64 (((s'.getD t8'.toNat .nil).cell 1).toInt), .int .i64 (((s'.getD t8'.toNat .nil).cell 2).toInt)])] []).bind fun r1 =>
    bif (r1.1.headD .undef).pv.toBool then
      some ([.p (.int .i64 t8')], [])
    else
      L tab C 67 [] [.lp [1, 0, 1, 0]] (S67_1010v s' t7' (IntKind.i64.wrap (t8' + (1 : Int)))) else none
  else
    some ([.p (.int .i64 (-1))], []) := by kernel_rfl
def S68_1010 (most' : Int) (t7' : List PV) (t8' : Int) (t9' : Int) : St := ⟨(.p (.int .i64 most')) :: .undef :: .undef :: .undef :: .undef :: .undef :: .undef :: (.p (.list false [.int .i64] t7')) :: (.p (.int .i64 t8')) :: (.p (.int .i64 t9')) :: List.replicate 13 .undef, []⟩
theorem e68 (C : CallF) (most : Int) (numbers : List PV) : acallI tab C 68 [.p (.int .i64 most), .p (.list false [.int .i64] numbers)] [] =
  L tab C 68 [] [.lp [1, 0, 1, 0]] (S68_1010 most numbers ((numbers.length : Nat) : Int) 0) := by kernel_rfl
theorem e68_1010 (C : CallF) (most' : Int) (t7' : List PV) (t8' : Int) (t9' : Int) : R tab C 68 [] [.lp [1, 0, 1, 0]] (S68_1010 most' t7' t8' t9') =
  bif (ltI t9' t8') then
    bif ((leI (0 : Int) t9') && (ltI t9' ((t7'.length : Nat) : Int))) then bif (ltI (((t7'.getD t9'.toNat .nil).cell 0).toInt) (IntKind.i64.wrap (0 - most'))) then
      some ([.p (.bool false)], [])
    else
      bif (gtI (((t7'.getD t9'.toNat .nil).cell 0).toInt) most') then
        some ([.p (.bool false)], [])
      else
        L tab C 68 [] [.lp [1, 0, 1, 0]] (S68_1010 most' t7' t8' (IntKind.i64.wrap (t9' + (1 : Int)))) else none
  else
    some ([.p (.bool true)], []) := by kernel_rfl
def S69_1010 (most' : Int) (i' : Int) (v_b0 : Int) (v_b1 : Int) (v_b2 : Int) : St := ⟨.undef :: (.p (.int .i64 most')) :: (.ptr 2 0 0) :: .undef :: .undef :: (.p (.int .i64 i')) :: List.replicate 17 .undef, [(2, .box [.p (.int .i64 v_b0), .p (.int .i64 v_b1), .p (.int .i64 v_b2)])]⟩
theorem e69 (C : CallF) (v_0 : Int) (v_1 : Int) (v_2 : Int) (most : Int) : acallI tab C 69 [.p (.agg [.int .i64 v_0, .int .i64 v_1, .int .i64 v_2]), .p (.int .i64 most)] [] =
  L tab C 69 [] [.lp [1, 0, 1, 0]] (S69_1010 most 0 v_0 v_1 v_2) := by kernel_rfl
theorem e69_1010 (C : CallF) (most' : Int) (i' : Int) (v_b0 : Int) (v_b1 : Int) (v_b2 : Int) : R tab C 69 [] [.lp [1, 0, 1, 0]] (S69_1010 most' i' v_b0 v_b1 v_b2) =
  bif (ltI i' (3 : Int)) then
    (C 58 [.p (.agg [.int .i64 v_b0, .int .i64 v_b1, .int .i64 v_b2]), .p (.int .i64 i')] []).bind fun r1 =>
    bif (gtI ((r1.1.headD .undef).pv.toInt) most') then
      some ([.p (.bool false)], [])
    else
      (C 58 [.p (.agg [.int .i64 v_b0, .int .i64 v_b1, .int .i64 v_b2]), .p (.int .i64 i')] []).bind fun r2 =>
      bif (ltI ((r2.1.headD .undef).pv.toInt) (IntKind.i64.wrap (0 - most'))) then
        some ([.p (.bool false)], [])
      else
        L tab C 69 [] [.lp [1, 0, 1, 0]] (S69_1010 most' (IntKind.i64.wrap (i' + (1 : Int))) v_b0 v_b1 v_b2)
  else
    some ([.p (.bool true)], []) := by kernel_rfl
theorem e70 (C : CallF) (s : List PV) : acallI tab C 70 [.p (.list true [.int .i64, .slice true [.int .i64, .int .i64, .int .i64], .int .i64, .int .i64, .int .i64, .int .i64] s), .p (.fn 71 [])] [] =
  (C 92 [.p (.list true [.int .i64, .slice true [.int .i64, .int .i64, .int .i64], .int .i64, .int .i64, .int .i64, .int .i64] s), .p (.fn 71 [])] []).bind fun r1 =>
  some ([.p (.bool (geI ((r1.1.headD .undef).pv.toInt) (0 : Int)))], []) := by kernel_rfl
theorem e71 (C : CallF) (s_0 : Int) (s_1 : List PV) (s_2 : Int) (s_3 : Int) (s_4 : Int) (s_5 : Int) : acallI tab C 71 [.p (.agg [.int .i64 s_0, .list true [.int .i64, .int .i64, .int .i64] s_1, .int .i64 s_2, .int .i64 s_3, .int .i64 s_4, .int .i64 s_5])] [] =
  (C 72 [.p (.agg [.int .i64 s_0, .list true [.int .i64, .int .i64, .int .i64] s_1, .int .i64 s_2, .int .i64 s_3, .int .i64 s_4, .int .i64 s_5])] []).bind fun r1 =>
  some ([.p (.bool (!(r1.1.headD .undef).pv.toBool))], []) := by kernel_rfl
theorem e72 (C : CallF) (s_0 : Int) (s_1 : List PV) (s_2 : Int) (s_3 : Int) (s_4 : Int) (s_5 : Int) : acallI tab C 72 [.p (.agg [.int .i64 s_0, .list true [.int .i64, .int .i64, .int .i64] s_1, .int .i64 s_2, .int .i64 s_3, .int .i64 s_4, .int .i64 s_5])] [] =
  (C 93 [.p (.int .i64 s_0)] []).bind fun r1 =>
  bif (!(r1.1.tail.headD .undef).pv.toBool) then
    some ([.p (.bool false)], [])
  else
    bif (ltI ((s_1.length : Nat) : Int) (((r1.1.headD .undef).pv.cell 1).toInt)) then
      some ([.p (.bool false)], [])
    else
      bif (gtI ((s_1.length : Nat) : Int) (((r1.1.headD .undef).pv.cell 2).toInt)) then
        some ([.p (.bool false)], [])
      else
        bif (s_5 != (0 : Int)) then
          bif (!((r1.1.headD .undef).pv.cell 5).toBool) then
            some ([.p (.bool false)], [])
          else
            bif (ltI s_5 (0 : Int)) then
              some ([.p (.bool false)], [])
            else
              bif (gtI s_5 (2 : Int)) then
                some ([.p (.bool false)], [])
              else
                (C 94 [.p (.bool (((r1.1.headD .undef).pv.cell 3).toBool)), .p (.int .i64 s_2), .p (.int .i64 500)] []).bind fun r2 =>
                bif (r2.1.headD .undef).pv.toBool then
                  (C 94 [.p (.bool (((r1.1.headD .undef).pv.cell 4).toBool)), .p (.int .i64 s_3), .p (.int .i64 50)] []).bind fun r3 =>
                  bif (r3.1.headD .undef).pv.toBool then
                    (C 94 [.p (.bool (((r1.1.headD .undef).pv.cell 4).toBool)), .p (.int .i64 s_4), .p (.int .i64 10000)] []).bind fun r4 =>
                    bif (r4.1.headD .undef).pv.toBool then
                      (C 43 [.p (.list true [.int .i64, .int .i64, .int .i64] s_1), .p (.fn 95 [])] []).bind fun r5 =>
                      some ([.p (.bool (!(r5.1.headD .undef).pv.toBool))], [])
                    else
                      some ([.p (.bool false)], [])
                  else
                    some ([.p (.bool false)], [])
                else
                  some ([.p (.bool false)], [])
        else
          (C 94 [.p (.bool (((r1.1.headD .undef).pv.cell 3).toBool)), .p (.int .i64 s_2), .p (.int .i64 500)] []).bind fun r6 =>
          bif (r6.1.headD .undef).pv.toBool then
            (C 94 [.p (.bool (((r1.1.headD .undef).pv.cell 4).toBool)), .p (.int .i64 s_3), .p (.int .i64 50)] []).bind fun r7 =>
            bif (r7.1.headD .undef).pv.toBool then
              (C 94 [.p (.bool (((r1.1.headD .undef).pv.cell 4).toBool)), .p (.int .i64 s_4), .p (.int .i64 10000)] []).bind fun r8 =>
              bif (r8.1.headD .undef).pv.toBool then
                (C 43 [.p (.list true [.int .i64, .int .i64, .int .i64] s_1), .p (.fn 95 [])] []).bind fun r9 =>
                some ([.p (.bool (!(r9.1.headD .undef).pv.toBool))], [])
              else
                some ([.p (.bool false)], [])
            else
              some ([.p (.bool false)], [])
          else
            some ([.p (.bool false)], []) := by kernel_rfl
theorem e73 (C : CallF) (s : List PV) : acallI tab C 73 [.p (.list true [.int .i64, .int .i64, .int .i64] s)] [] =
  some ([.p (.fn 96 [.ref [.list true [.int .i64, .int .i64, .int .i64] s]])], []) := by kernel_rfl
theorem e74 (C : CallF) (s_0 : Int) (s_1 : List PV) (s_2 : Int) (s_3 : Int) (s_4 : Int) (s_5 : Int) : acallI tab C 74 [.p (.agg [.int .i64 s_0, .list true [.int .i64, .int .i64, .int .i64] s_1, .int .i64 s_2, .int .i64 s_3, .int .i64 s_4, .int .i64 s_5])] [] =
  some ([.p (.fn 97 [.ref [.int .i64 s_0, .list true [.int .i64, .int .i64, .int .i64] s_1, .int .i64 s_2, .int .i64 s_3, .int .i64 s_4, .int .i64 s_5]])], []) := by kernel_rfl
theorem e75 (C : CallF) (s_0 : Int) (s_1 : List PV) (s_2 : Int) (s_3 : Int) (s_4 : Int) (s_5 : Int) : acallI tab C 75 [.p (.agg [.int .i64 s_0, .list true [.int .i64, .int .i64, .int .i64] s_1, .int .i64 s_2, .int .i64 s_3, .int .i64 s_4, .int .i64 s_5])] [] =
  some ([.p (.fn 99 [.ref [.int .i64 s_0, .list true [.int .i64, .int .i64, .int .i64] s_1, .int .i64 s_2, .int .i64 s_3, .int .i64 s_4, .int .i64 s_5]])], []) := by kernel_rfl
theorem e88 (C : CallF) (x : Int) (y : Int) : acallI tab C 88 [.p (.int .i64 x), .p (.int .i64 y)] [] =
  (C 106 [.p (.int .i64 x)] []).bind fun r1 =>
  (C 106 [.p (.int .i64 y)] []).bind fun r2 =>
  bif (r1.1.headD .undef).pv.toBool then
    bif (r2.1.headD .undef).pv.toBool then
      some ([.p (.int .i64 0)], [])
    else
      some ([.p (.int .i64 (-1))], [])
  else
    bif (r2.1.headD .undef).pv.toBool then
      some ([.p (.int .i64 1)], [])
    else
      bif (ltI x y) then
        some ([.p (.int .i64 (-1))], [])
      else
        bif (gtI x y) then
          some ([.p (.int .i64 1)], [])
        else
          some ([.p (.int .i64 0)], []) := by kernel_rfl
def S92_1010 (s' : List PV) (t7' : Int) (t8' : Int) : St := ⟨(.p (.list true [.int .i64, .slice true [.int .i64, .int .i64, .int .i64], .int .i64, .int .i64, .int .i64, .int .i64] s')) :: (.p (.fn 71 [])) :: .undef :: .undef :: .undef :: .undef :: .undef :: (.p (.int .i64 t7')) :: (.p (.int .i64 t8')) :: List.replicate 10 .undef, []⟩
theorem e92 (C : CallF) (s : List PV) : acallI tab C 92 [.p (.list true [.int .i64, .slice true [.int .i64, .int .i64, .int .i64], .int .i64, .int .i64, .int .i64, .int .i64] s), .p (.fn 71 [])] [] =
  L tab C 92 [] [.lp [1, 0, 1, 0]] (S92_1010 s ((s.length : Nat) : Int) 0) := by kernel_rfl
theorem e92_1010 (C : CallF) (s' : List PV) (t7' : Int) (t8' : Int) : R tab C 92 [] [.lp [1, 0, 1, 0]] (S92_1010 s' t7' t8') =
  bif (ltI t8' t7') then
    bif ((leI (0 : Int) t8') && (ltI t8' ((s'.length : Nat) : Int))) then (C 71 [.p (.agg [.int .i64 (((s'.getD t8'.toNat .nil).cell 0).toInt), .list true [.int .i64, .int .i64, .int .i64] (((s'.getD t8'.toNat .nil).cell 1).toList), .int .i64 (((s'.getD t8'.toNat .nil).cell 2).toInt), .int .i64 (((s'.getD t8'.toNat .nil).cell 3).toInt), .int .i64 (((s'.getD t8'.toNat .nil).cell 4).toInt), .int .i64 (((s'.getD t8'.toNat .nil).cell 5).toInt)])] []).bind fun r1 =>
    bif (r1.1.headD .undef).pv.toBool then
      some ([.p (.int .i64 t8')], [])
    else
      L tab C 92 [] [.lp [1, 0, 1, 0]] (S92_1010 s' t7' (IntKind.i64.wrap (t8' + (1 : Int)))) else none
  else
    some ([.p (.int .i64 (-1))], []) := by kernel_rfl
theorem e93 (C : CallF) (kind : Int) : acallI tab C 93 [.p (.int .i64 kind)] [] =
  bif (kind == (1 : Int)) then
    some ([.p (.agg [.str ⟨#[100, 111, 116, 115]⟩, .int .i64 1, .int .i64 200, .bool false, .bool false, .bool false]), .p (.bool true)], [])
  else
    bif (kind == (2 : Int)) then
      some ([.p (.agg [.str ⟨#[108, 105, 110, 101]⟩, .int .i64 2, .int .i64 200, .bool true, .bool false, .bool false]), .p (.bool true)], [])
    else
      bif (kind == (3 : Int)) then
        some ([.p (.agg [.str ⟨#[108, 111, 111, 112]⟩, .int .i64 3, .int .i64 200, .bool true, .bool false, .bool false]), .p (.bool true)], [])
      else
        bif (kind == (4 : Int)) then
          some ([.p (.agg [.str ⟨#[114, 105, 110, 103]⟩, .int .i64 1, .int .i64 1, .bool false, .bool true, .bool true]), .p (.bool true)], [])
        else
          bif (kind == (5 : Int)) then
            some ([.p (.agg [.str ⟨#[115, 112, 104, 101, 114, 101]⟩, .int .i64 1, .int .i64 1, .bool false, .bool true, .bool false]), .p (.bool true)], [])
          else
            some ([.p (.agg [.str ⟨#[]⟩, .int .i64 0, .int .i64 0, .bool false, .bool false, .bool false]), .p (.bool false)], []) := by kernel_rfl
theorem e94 (C : CallF) (has : Bool) (n_ : Int) (most : Int) : acallI tab C 94 [.p (.bool has), .p (.int .i64 n_), .p (.int .i64 most)] [] =
  bif has then
    bif (geI n_ (1 : Int)) then
      some ([.p (.bool (leI n_ most))], [])
    else
      some ([.p (.bool false)], [])
  else
    some ([.p (.bool (n_ == (0 : Int)))], []) := by kernel_rfl
theorem e95 (C : CallF) (v_0 : Int) (v_1 : Int) (v_2 : Int) : acallI tab C 95 [.p (.agg [.int .i64 v_0, .int .i64 v_1, .int .i64 v_2])] [] =
  (C 45 [.p (.agg [.int .i64 v_0, .int .i64 v_1, .int .i64 v_2])] []).bind fun r1 =>
  some ([.p (.bool (!(r1.1.headD .undef).pv.toBool))], []) := by kernel_rfl
def S96_10 (t5' : List PV) (t6' : Int) (t7' : Int) (b100000_b : List PV) : St := ⟨(.yld) :: .undef :: .undef :: .undef :: .undef :: (.p (.list true [.int .i64, .int .i64, .int .i64] t5')) :: (.p (.int .i64 t6')) :: (.p (.int .i64 t7')) :: List.replicate 8 .undef, [(100000, .log true b100000_b)]⟩
theorem e96 (C : CallF) (c0 : List PV) : acallI tab C 96 [.yld, .p (.ref [.list true [.int .i64, .int .i64, .int .i64] c0])] [.log true []] =
  L tab C 96 [.log true []] [.lp [1, 0]] (S96_10 c0 ((c0.length : Nat) : Int) 0 []) := by kernel_rfl
theorem e96_10 (C : CallF) (t5' : List PV) (t6' : Int) (t7' : Int) (b100000_b : List PV) : R tab C 96 [.log true []] [.lp [1, 0]] (S96_10 t5' t6' t7' b100000_b) =
  bif (ltI t7' t6') then
    bif ((leI (0 : Int) t7') && (ltI t7' ((t5'.length : Nat) : Int))) then fork (some ([], [.log false (b100000_b ++ ([.agg [.agg [.int .i64 (((t5'.getD t7'.toNat .nil).cell 0).toInt), .int .i64 (((t5'.getD t7'.toNat .nil).cell 1).toInt), .int .i64 (((t5'.getD t7'.toNat .nil).cell 2).toInt)]]] : List PV))])) <|
    L tab C 96 [.log true []] [.lp [1, 0]] (S96_10 t5' t6' (IntKind.i64.wrap (t7' + (1 : Int))) (b100000_b ++ ([.agg [.agg [.int .i64 (((t5'.getD t7'.toNat .nil).cell 0).toInt), .int .i64 (((t5'.getD t7'.toNat .nil).cell 1).toInt), .int .i64 (((t5'.getD t7'.toNat .nil).cell 2).toInt)]]] : List PV))) else none
  else
    some ([], [.log true b100000_b]) := by kernel_rfl
def S97_10 (t1_r0 : Int) (t1_r1 : List PV) (t1_r2 : Int) (t1_r3 : Int) (t1_r4 : Int) (t1_r5 : Int) (t10' : List PV) (t11' : Int) (t12' : Int) (b100000_b : List PV) : St := ⟨(.yld) :: (.p (.ref [.int .i64 t1_r0, .list true [.int .i64, .int .i64, .int .i64] t1_r1, .int .i64 t1_r2, .int .i64 t1_r3, .int .i64 t1_r4, .int .i64 t1_r5])) :: .undef :: .undef :: .undef :: .undef :: .undef :: .undef :: .undef :: .undef :: (.p (.list true [.int .i64, .int .i64, .int .i64] t10')) :: (.p (.int .i64 t11')) :: (.p (.int .i64 t12')) :: List.replicate 46 .undef, [(100000, .log true b100000_b)]⟩
def S97_10_110011110 (t1_r0 : Int) (t1_r1 : List PV) (t1_r2 : Int) (t1_r3 : Int) (t1_r4 : Int) (t1_r5 : Int) (t10' : List PV) (t11' : Int) (t12' : Int) (t40' : Int) (t41' : Int) (b100000_b : List PV) (a_b0 : Int) (a_b1 : Int) (a_b2 : Int) (b_b0 : Int) (b_b1 : Int) (b_b2 : Int) : St := ⟨(.yld) :: (.p (.ref [.int .i64 t1_r0, .list true [.int .i64, .int .i64, .int .i64] t1_r1, .int .i64 t1_r2, .int .i64 t1_r3, .int .i64 t1_r4, .int .i64 t1_r5])) :: .undef :: .undef :: (.ptr 4 0 0) :: (.ptr 5 0 0) :: .undef :: .undef :: .undef :: .undef :: (.p (.list true [.int .i64, .int .i64, .int .i64] t10')) :: (.p (.int .i64 t11')) :: (.p (.int .i64 t12')) :: .undef :: .undef :: .undef :: .undef :: .undef :: .undef :: .undef :: .undef :: .undef :: .undef :: .undef :: .undef :: .undef :: .undef :: .undef :: .undef :: .undef :: .undef :: .undef :: .undef :: .undef :: .undef :: .undef :: .undef :: .undef :: .undef :: .undef :: (.p (.int .i64 t40')) :: (.p (.int .i64 t41')) :: List.replicate 17 .undef, [(100000, .log true b100000_b), (4, .box [.p (.int .i64 a_b0), .p (.int .i64 a_b1), .p (.int .i64 a_b2)]), (5, .box [.p (.int .i64 b_b0), .p (.int .i64 b_b1), .p (.int .i64 b_b2)])]⟩
def S97_10_110011110_s1 (t1_r0 : Int) (t1_r1 : List PV) (t1_r2 : Int) (t1_r3 : Int) (t1_r4 : Int) (t1_r5 : Int) (a_r0 : Int) (a_r1 : Int) (a_r2 : Int) (b_r0 : Int) (b_r1 : Int) (b_r2 : Int) (t10' : List PV) (t11' : Int) (t12' : Int) (t40' : Int) (t41' : Int) (b100000_b : List PV) : St := ⟨(.yld) :: (.p (.ref [.int .i64 t1_r0, .list true [.int .i64, .int .i64, .int .i64] t1_r1, .int .i64 t1_r2, .int .i64 t1_r3, .int .i64 t1_r4, .int .i64 t1_r5])) :: .undef :: .undef :: (.p (.ref [.int .i64 a_r0, .int .i64 a_r1, .int .i64 a_r2])) :: (.p (.ref [.int .i64 b_r0, .int .i64 b_r1, .int .i64 b_r2])) :: .undef :: .undef :: .undef :: .undef :: (.p (.list true [.int .i64, .int .i64, .int .i64] t10')) :: (.p (.int .i64 t11')) :: (.p (.int .i64 t12')) :: .undef :: .undef :: .undef :: .undef :: .undef :: .undef :: .undef :: .undef :: .undef :: .undef :: .undef :: .undef :: .undef :: .undef :: .undef :: .undef :: .undef :: .undef :: .undef :: .undef :: .undef :: .undef :: .undef :: .undef :: .undef :: .undef :: .undef :: (.p (.int .i64 t40')) :: (.p (.int .i64 t41')) :: List.replicate 17 .undef, [(100000, .log true b100000_b)]⟩
theorem e97 (C : CallF) (c0_0 : Int) (c0_1 : List PV) (c0_2 : Int) (c0_3 : Int) (c0_4 : Int) (c0_5 : Int) : acallI tab C 97 [.yld, .p (.ref [.int .i64 c0_0, .list true [.int .i64, .int .i64, .int .i64] c0_1, .int .i64 c0_2, .int .i64 c0_3, .int .i64 c0_4, .int .i64 c0_5])] [.log true []] =
  L tab C 97 [.log true []] [.lp [1, 0]] (S97_10 c0_0 c0_1 c0_2 c0_3 c0_4 c0_5 c0_1 ((c0_1.length : Nat) : Int) 0 []) := by kernel_rfl
theorem e97_10 (C : CallF) (t1_r0 : Int) (t1_r1 : List PV) (t1_r2 : Int) (t1_r3 : Int) (t1_r4 : Int) (t1_r5 : Int) (t10' : List PV) (t11' : Int) (t12' : Int) (b100000_b : List PV) : R tab C 97 [.log true []] [.lp [1, 0]] (S97_10 t1_r0 t1_r1 t1_r2 t1_r3 t1_r4 t1_r5 t10' t11' t12' b100000_b) =
  bif (ltI t12' t11') then
    bif ((leI (0 : Int) t12') && (ltI t12' ((t10'.length : Nat) : Int))) then bif (t1_r0 == (2 : Int)) then
      bif ((IntKind.i64.wrap (t12' + (1 : Int))) == ((t1_r1.length : Nat) : Int)) then
        some ([], [.log true b100000_b])
      else
        bif (!(eqI ((t1_r1.length : Nat) : Int) (0 : Int))) then bif ((leI (0 : Int) ((IntKind.i64.wrap (t12' + (1 : Int))).tmod ((t1_r1.length : Nat) : Int))) && (ltI ((IntKind.i64.wrap (t12' + (1 : Int))).tmod ((t1_r1.length : Nat) : Int)) ((t1_r1.length : Nat) : Int))) then L tab C 97 [.log true []] [.lp [1, 0], .lp [1, 1, 0, 0, 1, 1, 1, 1, 0]] (S97_10_110011110 t1_r0 t1_r1 t1_r2 t1_r3 t1_r4 t1_r5 t10' t11' t12' (IntKind.i64.wrap (t1_r2 + (1 : Int))) 0 b100000_b (((t10'.getD t12'.toNat .nil).cell 0).toInt) (((t10'.getD t12'.toNat .nil).cell 1).toInt) (((t10'.getD t12'.toNat .nil).cell 2).toInt) (((t1_r1.getD (((IntKind.i64.wrap (t12' + (1 : Int))).tmod ((t1_r1.length : Nat) : Int)).toNat) .nil).cell 0).toInt) (((t1_r1.getD (((IntKind.i64.wrap (t12' + (1 : Int))).tmod ((t1_r1.length : Nat) : Int)).toNat) .nil).cell 1).toInt) (((t1_r1.getD (((IntKind.i64.wrap (t12' + (1 : Int))).tmod ((t1_r1.length : Nat) : Int)).toNat) .nil).cell 2).toInt)) else none else none
    else
      bif (!(eqI ((t1_r1.length : Nat) : Int) (0 : Int))) then bif ((leI (0 : Int) ((IntKind.i64.wrap (t12' + (1 : Int))).tmod ((t1_r1.length : Nat) : Int))) && (ltI ((IntKind.i64.wrap (t12' + (1 : Int))).tmod ((t1_r1.length : Nat) : Int)) ((t1_r1.length : Nat) : Int))) then L tab C 97 [.log true []] [.lp [1, 0], .lp [1, 1, 0, 0, 1, 1, 1, 1, 0]] (S97_10_110011110 t1_r0 t1_r1 t1_r2 t1_r3 t1_r4 t1_r5 t10' t11' t12' (IntKind.i64.wrap (t1_r2 + (1 : Int))) 0 b100000_b (((t10'.getD t12'.toNat .nil).cell 0).toInt) (((t10'.getD t12'.toNat .nil).cell 1).toInt) (((t10'.getD t12'.toNat .nil).cell 2).toInt) (((t1_r1.getD (((IntKind.i64.wrap (t12' + (1 : Int))).tmod ((t1_r1.length : Nat) : Int)).toNat) .nil).cell 0).toInt) (((t1_r1.getD (((IntKind.i64.wrap (t12' + (1 : Int))).tmod ((t1_r1.length : Nat) : Int)).toNat) .nil).cell 1).toInt) (((t1_r1.getD (((IntKind.i64.wrap (t12' + (1 : Int))).tmod ((t1_r1.length : Nat) : Int)).toNat) .nil).cell 2).toInt)) else none else none else none
  else
    some ([], [.log true b100000_b]) := by kernel_rfl
theorem e97_10_110011110 (C : CallF) (t1_r0 : Int) (t1_r1 : List PV) (t1_r2 : Int) (t1_r3 : Int) (t1_r4 : Int) (t1_r5 : Int) (t10' : List PV) (t11' : Int) (t12' : Int) (t40' : Int) (t41' : Int) (b100000_b : List PV) (a_b0 : Int) (a_b1 : Int) (a_b2 : Int) (b_b0 : Int) (b_b1 : Int) (b_b2 : Int) : R tab C 97 [.log true []] [.lp [1, 0], .lp [1, 1, 0, 0, 1, 1, 1, 1, 0]] (S97_10_110011110 t1_r0 t1_r1 t1_r2 t1_r3 t1_r4 t1_r5 t10' t11' t12' t40' t41' b100000_b a_b0 a_b1 a_b2 b_b0 b_b1 b_b2) =
  bif (ltI t41' t40') then
    (C 98 [.p (.agg [.int .i64 a_b0, .int .i64 a_b1, .int .i64 a_b2]), .p (.agg [.int .i64 b_b0, .int .i64 b_b1, .int .i64 b_b2]), .p (.int .i64 t41'), .p (.int .i64 t1_r2)] []).bind fun r1 =>
    fork (some ([], [.log false (b100000_b ++ ([.agg [.agg [.int .i64 (((r1.1.headD .undef).pv.cell 0).toInt), .int .i64 (((r1.1.headD .undef).pv.cell 1).toInt), .int .i64 (((r1.1.headD .undef).pv.cell 2).toInt)]]] : List PV))])) <|
    L tab C 97 [.log true []] [.lp [1, 0], .lp [1, 1, 0, 0, 1, 1, 1, 1, 0]] (S97_10_110011110_s1 t1_r0 t1_r1 t1_r2 t1_r3 t1_r4 t1_r5 a_b0 a_b1 a_b2 b_b0 b_b1 b_b2 t10' t11' t12' t40' (IntKind.i64.wrap (t41' + (1 : Int))) (b100000_b ++ ([.agg [.agg [.int .i64 (((r1.1.headD .undef).pv.cell 0).toInt), .int .i64 (((r1.1.headD .undef).pv.cell 1).toInt), .int .i64 (((r1.1.headD .undef).pv.cell 2).toInt)]]] : List PV)))
  else
    L tab C 97 [.log true []] [.lp [1, 0]] (S97_10 t1_r0 t1_r1 t1_r2 t1_r3 t1_r4 t1_r5 t10' t11' (IntKind.i64.wrap (t12' + (1 : Int))) b100000_b) := by kernel_rfl
theorem e97_10_110011110_s1 (C : CallF) (t1_r0 : Int) (t1_r1 : List PV) (t1_r2 : Int) (t1_r3 : Int) (t1_r4 : Int) (t1_r5 : Int) (a_r0 : Int) (a_r1 : Int) (a_r2 : Int) (b_r0 : Int) (b_r1 : Int) (b_r2 : Int) (t10' : List PV) (t11' : Int) (t12' : Int) (t40' : Int) (t41' : Int) (b100000_b : List PV) : R tab C 97 [.log true []] [.lp [1, 0], .lp [1, 1, 0, 0, 1, 1, 1, 1, 0]] (S97_10_110011110_s1 t1_r0 t1_r1 t1_r2 t1_r3 t1_r4 t1_r5 a_r0 a_r1 a_r2 b_r0 b_r1 b_r2 t10' t11' t12' t40' t41' b100000_b) =
  bif (ltI t41' t40') then
    (C 98 [.p (.agg [.int .i64 a_r0, .int .i64 a_r1, .int .i64 a_r2]), .p (.agg [.int .i64 b_r0, .int .i64 b_r1, .int .i64 b_r2]), .p (.int .i64 t41'), .p (.int .i64 t1_r2)] []).bind fun r1 =>
    fork (some ([], [.log false (b100000_b ++ ([.agg [.agg [.int .i64 (((r1.1.headD .undef).pv.cell 0).toInt), .int .i64 (((r1.1.headD .undef).pv.cell 1).toInt), .int .i64 (((r1.1.headD .undef).pv.cell 2).toInt)]]] : List PV))])) <|
    L tab C 97 [.log true []] [.lp [1, 0], .lp [1, 1, 0, 0, 1, 1, 1, 1, 0]] (S97_10_110011110_s1 t1_r0 t1_r1 t1_r2 t1_r3 t1_r4 t1_r5 a_r0 a_r1 a_r2 b_r0 b_r1 b_r2 t10' t11' t12' t40' (IntKind.i64.wrap (t41' + (1 : Int))) (b100000_b ++ ([.agg [.agg [.int .i64 (((r1.1.headD .undef).pv.cell 0).toInt), .int .i64 (((r1.1.headD .undef).pv.cell 1).toInt), .int .i64 (((r1.1.headD .undef).pv.cell 2).toInt)]]] : List PV)))
  else
    L tab C 97 [.log true []] [.lp [1, 0]] (S97_10 t1_r0 t1_r1 t1_r2 t1_r3 t1_r4 t1_r5 t10' t11' (IntKind.i64.wrap (t12' + (1 : Int))) b100000_b) := by kernel_rfl
theorem e98 (C : CallF) (a_0 : Int) (a_1 : Int) (a_2 : Int) (b_0 : Int) (b_1 : Int) (b_2 : Int) (num : Int) (den : Int) : acallI tab C 98 [.p (.agg [.int .i64 a_0, .int .i64 a_1, .int .i64 a_2]), .p (.agg [.int .i64 b_0, .int .i64 b_1, .int .i64 b_2]), .p (.int .i64 num), .p (.int .i64 den)] [] =
  (C 63 [.p (.agg [.int .i64 a_0, .int .i64 a_1, .int .i64 a_2])] []).bind fun r1 =>
  bif (!(r1.1.headD .undef).pv.toBool) then
    some ([.p (.agg [.int .i64 0, .int .i64 0, .int .i64 0]), .p (.int .i64 2)], [])
  else
    (C 63 [.p (.agg [.int .i64 b_0, .int .i64 b_1, .int .i64 b_2])] []).bind fun r2 =>
    bif (!(r2.1.headD .undef).pv.toBool) then
      some ([.p (.agg [.int .i64 0, .int .i64 0, .int .i64 0]), .p (.int .i64 2)], [])
    else
      bif (ltI den (1 : Int)) then
        some ([.p (.agg [.int .i64 0, .int .i64 0, .int .i64 0]), .p (.int .i64 2)], [])
      else
        bif (gtI den (4294967296 : Int)) then
          some ([.p (.agg [.int .i64 0, .int .i64 0, .int .i64 0]), .p (.int .i64 2)], [])
        else
          bif (ltI num (0 : Int)) then
            some ([.p (.agg [.int .i64 0, .int .i64 0, .int .i64 0]), .p (.int .i64 2)], [])
          else
            bif (gtI num den) then
              some ([.p (.agg [.int .i64 0, .int .i64 0, .int .i64 0]), .p (.int .i64 2)], [])
            else
              (C 64 [.p (.agg [.int .i64 a_0, .int .i64 a_1, .int .i64 a_2]), .p (.agg [.int .i64 b_0, .int .i64 b_1, .int .i64 b_2]), .p (.fn 108 [.ref [.int .i64 num], .ref [.int .i64 den]])] []).bind fun r3 =>
              some ([.p (.agg [.int .i64 (((r3.1.headD .undef).pv.cell 0).toInt), .int .i64 (((r3.1.headD .undef).pv.cell 1).toInt), .int .i64 (((r3.1.headD .undef).pv.cell 2).toInt)]), .p (.int .i64 0)], []) := by kernel_rfl
def S99_11110 (t1_r0 : Int) (t1_r1 : List PV) (t1_r2 : Int) (t1_r3 : Int) (t1_r4 : Int) (t1_r5 : Int) (r_' : Int) (depth' : Int) (i' : Int) (b100000_b : List PV) (c_b0 : Int) (c_b1 : Int) (c_b2 : Int) : St := ⟨(.yld) :: (.p (.ref [.int .i64 t1_r0, .list true [.int .i64, .int .i64, .int .i64] t1_r1, .int .i64 t1_r2, .int .i64 t1_r3, .int .i64 t1_r4, .int .i64 t1_r5])) :: .undef :: (.p (.int .i64 r_')) :: (.ptr 4 0 0) :: (.p (.int .i64 depth')) :: (.p (.int .i64 i')) :: List.replicate 114 .undef, [(100000, .log true b100000_b), (4, .box [.p (.int .i64 c_b0), .p (.int .i64 c_b1), .p (.int .i64 c_b2)])]⟩
def S99_11110_10010 (t1_r0 : Int) (t1_r1 : List PV) (t1_r2 : Int) (t1_r3 : Int) (t1_r4 : Int) (t1_r5 : Int) (r_' : Int) (depth' : Int) (i' : Int) (j' : Int) (b100000_b : List PV) (c_b0 : Int) (c_b1 : Int) (c_b2 : Int) : St := ⟨(.yld) :: (.p (.ref [.int .i64 t1_r0, .list true [.int .i64, .int .i64, .int .i64] t1_r1, .int .i64 t1_r2, .int .i64 t1_r3, .int .i64 t1_r4, .int .i64 t1_r5])) :: .undef :: (.p (.int .i64 r_')) :: (.ptr 4 0 0) :: (.p (.int .i64 depth')) :: (.p (.int .i64 i')) :: (.p (.int .i64 j')) :: List.replicate 113 .undef, [(100000, .log true b100000_b), (4, .box [.p (.int .i64 c_b0), .p (.int .i64 c_b1), .p (.int .i64 c_b2)])]⟩
def S99_11110_10010_10010 (t1_r0 : Int) (t1_r1 : List PV) (t1_r2 : Int) (t1_r3 : Int) (t1_r4 : Int) (t1_r5 : Int) (r_' : Int) (depth' : Int) (i' : Int) (j' : Int) (k' : Int) (b100000_b : List PV) (c_b0 : Int) (c_b1 : Int) (c_b2 : Int) : St := ⟨(.yld) :: (.p (.ref [.int .i64 t1_r0, .list true [.int .i64, .int .i64, .int .i64] t1_r1, .int .i64 t1_r2, .int .i64 t1_r3, .int .i64 t1_r4, .int .i64 t1_r5])) :: .undef :: (.p (.int .i64 r_')) :: (.ptr 4 0 0) :: (.p (.int .i64 depth')) :: (.p (.int .i64 i')) :: (.p (.int .i64 j')) :: (.p (.int .i64 k')) :: List.replicate 112 .undef, [(100000, .log true b100000_b), (4, .box [.p (.int .i64 c_b0), .p (.int .i64 c_b1), .p (.int .i64 c_b2)])]⟩
def S99_11110_10010_10010_s1 (t1_r0 : Int) (t1_r1 : List PV) (t1_r2 : Int) (t1_r3 : Int) (t1_r4 : Int) (t1_r5 : Int) (r_' : Int) (c_r0 : Int) (c_r1 : Int) (c_r2 : Int) (depth' : Int) (i' : Int) (j' : Int) (k' : Int) (b100000_b : List PV) : St := ⟨(.yld) :: (.p (.ref [.int .i64 t1_r0, .list true [.int .i64, .int .i64, .int .i64] t1_r1, .int .i64 t1_r2, .int .i64 t1_r3, .int .i64 t1_r4, .int .i64 t1_r5])) :: .undef :: (.p (.int .i64 r_')) :: (.p (.ref [.int .i64 c_r0, .int .i64 c_r1, .int .i64 c_r2])) :: (.p (.int .i64 depth')) :: (.p (.int .i64 i')) :: (.p (.int .i64 j')) :: (.p (.int .i64 k')) :: List.replicate 112 .undef, [(100000, .log true b100000_b)]⟩
def S99_11110_10010_s1 (t1_r0 : Int) (t1_r1 : List PV) (t1_r2 : Int) (t1_r3 : Int) (t1_r4 : Int) (t1_r5 : Int) (r_' : Int) (c_r0 : Int) (c_r1 : Int) (c_r2 : Int) (depth' : Int) (i' : Int) (j' : Int) (b100000_b : List PV) : St := ⟨(.yld) :: (.p (.ref [.int .i64 t1_r0, .list true [.int .i64, .int .i64, .int .i64] t1_r1, .int .i64 t1_r2, .int .i64 t1_r3, .int .i64 t1_r4, .int .i64 t1_r5])) :: .undef :: (.p (.int .i64 r_')) :: (.p (.ref [.int .i64 c_r0, .int .i64 c_r1, .int .i64 c_r2])) :: (.p (.int .i64 depth')) :: (.p (.int .i64 i')) :: (.p (.int .i64 j')) :: List.replicate 113 .undef, [(100000, .log true b100000_b)]⟩
def S99_11110_s1 (t1_r0 : Int) (t1_r1 : List PV) (t1_r2 : Int) (t1_r3 : Int) (t1_r4 : Int) (t1_r5 : Int) (r_' : Int) (c_r0 : Int) (c_r1 : Int) (c_r2 : Int) (depth' : Int) (i' : Int) (b100000_b : List PV) : St := ⟨(.yld) :: (.p (.ref [.int .i64 t1_r0, .list true [.int .i64, .int .i64, .int .i64] t1_r1, .int .i64 t1_r2, .int .i64 t1_r3, .int .i64 t1_r4, .int .i64 t1_r5])) :: .undef :: (.p (.int .i64 r_')) :: (.p (.ref [.int .i64 c_r0, .int .i64 c_r1, .int .i64 c_r2])) :: (.p (.int .i64 depth')) :: (.p (.int .i64 i')) :: List.replicate 114 .undef, [(100000, .log true b100000_b)]⟩
theorem e99 (C : CallF) (c0_0 : Int) (c0_1 : List PV) (c0_2 : Int) (c0_3 : Int) (c0_4 : Int) (c0_5 : Int) : acallI tab C 99 [.yld, .p (.ref [.int .i64 c0_0, .list true [.int .i64, .int .i64, .int .i64] c0_1, .int .i64 c0_2, .int .i64 c0_3, .int .i64 c0_4, .int .i64 c0_5])] [.log true []] =
  bif (ltI (0 : Int) ((c0_1.length : Nat) : Int)) then bif (c0_0 == (5 : Int)) then
    L tab C 99 [.log true []] [.lp [1, 1, 1, 1, 0]] (S99_11110 c0_0 c0_1 c0_2 c0_3 c0_4 c0_5 c0_3 (IntKind.i64.wrap (c0_3 + (1 : Int))) (IntKind.i64.wrap ((IntKind.i64.wrap (0 - c0_3)) - (1 : Int))) [] (((c0_1.getD 0 .nil).cell 0).toInt) (((c0_1.getD 0 .nil).cell 1).toInt) (((c0_1.getD 0 .nil).cell 2).toInt))
  else
    L tab C 99 [.log true []] [.lp [1, 1, 1, 1, 0]] (S99_11110 c0_0 c0_1 c0_2 c0_3 c0_4 c0_5 c0_3 0 (IntKind.i64.wrap ((IntKind.i64.wrap (0 - c0_3)) - (1 : Int))) [] (((c0_1.getD 0 .nil).cell 0).toInt) (((c0_1.getD 0 .nil).cell 1).toInt) (((c0_1.getD 0 .nil).cell 2).toInt)) else none := by kernel_rfl
theorem e99_11110 (C : CallF) (t1_r0 : Int) (t1_r1 : List PV) (t1_r2 : Int) (t1_r3 : Int) (t1_r4 : Int) (t1_r5 : Int) (r_' : Int) (depth' : Int) (i' : Int) (b100000_b : List PV) (c_b0 : Int) (c_b1 : Int) (c_b2 : Int) : R tab C 99 [.log true []] [.lp [1, 1, 1, 1, 0]] (S99_11110 t1_r0 t1_r1 t1_r2 t1_r3 t1_r4 t1_r5 r_' depth' i' b100000_b c_b0 c_b1 c_b2) =
  bif (leI i' (IntKind.i64.wrap (r_' + (1 : Int)))) then
    L tab C 99 [.log true []] [.lp [1, 1, 1, 1, 0], .lp [1, 0, 0, 1, 0]] (S99_11110_10010 t1_r0 t1_r1 t1_r2 t1_r3 t1_r4 t1_r5 r_' depth' i' (IntKind.i64.wrap ((IntKind.i64.wrap (0 - r_')) - (1 : Int))) b100000_b c_b0 c_b1 c_b2)
  else
    some ([], [.log true b100000_b]) := by kernel_rfl
theorem e99_11110_10010 (C : CallF) (t1_r0 : Int) (t1_r1 : List PV) (t1_r2 : Int) (t1_r3 : Int) (t1_r4 : Int) (t1_r5 : Int) (r_' : Int) (depth' : Int) (i' : Int) (j' : Int) (b100000_b : List PV) (c_b0 : Int) (c_b1 : Int) (c_b2 : Int) : R tab C 99 [.log true []] [.lp [1, 1, 1, 1, 0], .lp [1, 0, 0, 1, 0]] (S99_11110_10010 t1_r0 t1_r1 t1_r2 t1_r3 t1_r4 t1_r5 r_' depth' i' j' b100000_b c_b0 c_b1 c_b2) =
  bif (leI j' (IntKind.i64.wrap (r_' + (1 : Int)))) then
    L tab C 99 [.log true []] [.lp [1, 1, 1, 1, 0], .lp [1, 0, 0, 1, 0], .lp [1, 0, 0, 1, 0]] (S99_11110_10010_10010 t1_r0 t1_r1 t1_r2 t1_r3 t1_r4 t1_r5 r_' depth' i' j' (IntKind.i64.wrap (0 - depth')) b100000_b c_b0 c_b1 c_b2)
  else
    L tab C 99 [.log true []] [.lp [1, 1, 1, 1, 0]] (S99_11110 t1_r0 t1_r1 t1_r2 t1_r3 t1_r4 t1_r5 r_' depth' (IntKind.i64.wrap (i' + (1 : Int))) b100000_b c_b0 c_b1 c_b2) := by kernel_rfl
theorem e99_11110_10010_10010 (C : CallF) (t1_r0 : Int) (t1_r1 : List PV) (t1_r2 : Int) (t1_r3 : Int) (t1_r4 : Int) (t1_r5 : Int) (r_' : Int) (depth' : Int) (i' : Int) (j' : Int) (k' : Int) (b100000_b : List PV) (c_b0 : Int) (c_b1 : Int) (c_b2 : Int) : R tab C 99 [.log true []] [.lp [1, 1, 1, 1, 0], .lp [1, 0, 0, 1, 0], .lp [1, 0, 0, 1, 0]] (S99_11110_10010_10010 t1_r0 t1_r1 t1_r2 t1_r3 t1_r4 t1_r5 r_' depth' i' j' k' b100000_b c_b0 c_b1 c_b2) =
  bif (leI k' depth') then
    bif (ltI (IntKind.i64.wrap ((IntKind.i64.wrap ((IntKind.i64.wrap (i' * i')) + (IntKind.i64.wrap (j' * j')))) + (IntKind.i64.wrap (k' * k')))) (IntKind.i64.wrap ((IntKind.i64.wrap (r_' * r_')) - r_'))) then
      L tab C 99 [.log true []] [.lp [1, 1, 1, 1, 0], .lp [1, 0, 0, 1, 0], .lp [1, 0, 0, 1, 0]] (S99_11110_10010_10010 t1_r0 t1_r1 t1_r2 t1_r3 t1_r4 t1_r5 r_' depth' i' j' (IntKind.i64.wrap (k' + (1 : Int))) b100000_b c_b0 c_b1 c_b2)
    else
      bif (gtI (IntKind.i64.wrap ((IntKind.i64.wrap ((IntKind.i64.wrap (i' * i')) + (IntKind.i64.wrap (j' * j')))) + (IntKind.i64.wrap (k' * k')))) (IntKind.i64.wrap ((IntKind.i64.wrap (r_' * r_')) + r_'))) then
        L tab C 99 [.log true []] [.lp [1, 1, 1, 1, 0], .lp [1, 0, 0, 1, 0], .lp [1, 0, 0, 1, 0]] (S99_11110_10010_10010 t1_r0 t1_r1 t1_r2 t1_r3 t1_r4 t1_r5 r_' depth' i' j' (IntKind.i64.wrap (k' + (1 : Int))) b100000_b c_b0 c_b1 c_b2)
      else
        bif (t1_r5 == (1 : Int)) then
          fork (some ([], [.log false (b100000_b ++ ([.agg [.agg [.int .i64 (IntKind.i64.wrap (c_b0 + (IntKind.i64.wrap (i' * t1_r4)))), .int .i64 (IntKind.i64.wrap (c_b1 + (0 : Int))), .int .i64 (IntKind.i64.wrap (c_b2 + (IntKind.i64.wrap (j' * t1_r4))))]]] : List PV))])) <|
          L tab C 99 [.log true []] [.lp [1, 1, 1, 1, 0], .lp [1, 0, 0, 1, 0], .lp [1, 0, 0, 1, 0]] (S99_11110_10010_10010_s1 t1_r0 t1_r1 t1_r2 t1_r3 t1_r4 t1_r5 r_' c_b0 c_b1 c_b2 depth' i' j' (IntKind.i64.wrap (k' + (1 : Int))) (b100000_b ++ ([.agg [.agg [.int .i64 (IntKind.i64.wrap (c_b0 + (IntKind.i64.wrap (i' * t1_r4)))), .int .i64 (IntKind.i64.wrap (c_b1 + (0 : Int))), .int .i64 (IntKind.i64.wrap (c_b2 + (IntKind.i64.wrap (j' * t1_r4))))]]] : List PV)))
        else
          bif (t1_r5 == (2 : Int)) then
            fork (some ([], [.log false (b100000_b ++ ([.agg [.agg [.int .i64 (IntKind.i64.wrap (c_b0 + (0 : Int))), .int .i64 (IntKind.i64.wrap (c_b1 + (IntKind.i64.wrap (i' * t1_r4)))), .int .i64 (IntKind.i64.wrap (c_b2 + (IntKind.i64.wrap (j' * t1_r4))))]]] : List PV))])) <|
            L tab C 99 [.log true []] [.lp [1, 1, 1, 1, 0], .lp [1, 0, 0, 1, 0], .lp [1, 0, 0, 1, 0]] (S99_11110_10010_10010_s1 t1_r0 t1_r1 t1_r2 t1_r3 t1_r4 t1_r5 r_' c_b0 c_b1 c_b2 depth' i' j' (IntKind.i64.wrap (k' + (1 : Int))) (b100000_b ++ ([.agg [.agg [.int .i64 (IntKind.i64.wrap (c_b0 + (0 : Int))), .int .i64 (IntKind.i64.wrap (c_b1 + (IntKind.i64.wrap (i' * t1_r4)))), .int .i64 (IntKind.i64.wrap (c_b2 + (IntKind.i64.wrap (j' * t1_r4))))]]] : List PV)))
          else
            fork (some ([], [.log false (b100000_b ++ ([.agg [.agg [.int .i64 (IntKind.i64.wrap (c_b0 + (IntKind.i64.wrap (i' * t1_r4)))), .int .i64 (IntKind.i64.wrap (c_b1 + (IntKind.i64.wrap (j' * t1_r4)))), .int .i64 (IntKind.i64.wrap (c_b2 + (IntKind.i64.wrap (k' * t1_r4))))]]] : List PV))])) <|
            L tab C 99 [.log true []] [.lp [1, 1, 1, 1, 0], .lp [1, 0, 0, 1, 0], .lp [1, 0, 0, 1, 0]] (S99_11110_10010_10010_s1 t1_r0 t1_r1 t1_r2 t1_r3 t1_r4 t1_r5 r_' c_b0 c_b1 c_b2 depth' i' j' (IntKind.i64.wrap (k' + (1 : Int))) (b100000_b ++ ([.agg [.agg [.int .i64 (IntKind.i64.wrap (c_b0 + (IntKind.i64.wrap (i' * t1_r4)))), .int .i64 (IntKind.i64.wrap (c_b1 + (IntKind.i64.wrap (j' * t1_r4)))), .int .i64 (IntKind.i64.wrap (c_b2 + (IntKind.i64.wrap (k' * t1_r4))))]]] : List PV)))
  else
    L tab C 99 [.log true []] [.lp [1, 1, 1, 1, 0], .lp [1, 0, 0, 1, 0]] (S99_11110_10010 t1_r0 t1_r1 t1_r2 t1_r3 t1_r4 t1_r5 r_' depth' i' (IntKind.i64.wrap (j' + (1 : Int))) b100000_b c_b0 c_b1 c_b2) := by kernel_rfl
theorem e99_11110_10010_10010_s1 (C : CallF) (t1_r0 : Int) (t1_r1 : List PV) (t1_r2 : Int) (t1_r3 : Int) (t1_r4 : Int) (t1_r5 : Int) (r_' : Int) (c_r0 : Int) (c_r1 : Int) (c_r2 : Int) (depth' : Int) (i' : Int) (j' : Int) (k' : Int) (b100000_b : List PV) : R tab C 99 [.log true []] [.lp [1, 1, 1, 1, 0], .lp [1, 0, 0, 1, 0], .lp [1, 0, 0, 1, 0]] (S99_11110_10010_10010_s1 t1_r0 t1_r1 t1_r2 t1_r3 t1_r4 t1_r5 r_' c_r0 c_r1 c_r2 depth' i' j' k' b100000_b) =
  bif (leI k' depth') then
    bif (ltI (IntKind.i64.wrap ((IntKind.i64.wrap ((IntKind.i64.wrap (i' * i')) + (IntKind.i64.wrap (j' * j')))) + (IntKind.i64.wrap (k' * k')))) (IntKind.i64.wrap ((IntKind.i64.wrap (r_' * r_')) - r_'))) then
      L tab C 99 [.log true []] [.lp [1, 1, 1, 1, 0], .lp [1, 0, 0, 1, 0], .lp [1, 0, 0, 1, 0]] (S99_11110_10010_10010_s1 t1_r0 t1_r1 t1_r2 t1_r3 t1_r4 t1_r5 r_' c_r0 c_r1 c_r2 depth' i' j' (IntKind.i64.wrap (k' + (1 : Int))) b100000_b)
    else
      bif (gtI (IntKind.i64.wrap ((IntKind.i64.wrap ((IntKind.i64.wrap (i' * i')) + (IntKind.i64.wrap (j' * j')))) + (IntKind.i64.wrap (k' * k')))) (IntKind.i64.wrap ((IntKind.i64.wrap (r_' * r_')) + r_'))) then
        L tab C 99 [.log true []] [.lp [1, 1, 1, 1, 0], .lp [1, 0, 0, 1, 0], .lp [1, 0, 0, 1, 0]] (S99_11110_10010_10010_s1 t1_r0 t1_r1 t1_r2 t1_r3 t1_r4 t1_r5 r_' c_r0 c_r1 c_r2 depth' i' j' (IntKind.i64.wrap (k' + (1 : Int))) b100000_b)
      else
        bif (t1_r5 == (1 : Int)) then
          fork (some ([], [.log false (b100000_b ++ ([.agg [.agg [.int .i64 (IntKind.i64.wrap (c_r0 + (IntKind.i64.wrap (i' * t1_r4)))), .int .i64 (IntKind.i64.wrap (c_r1 + (0 : Int))), .int .i64 (IntKind.i64.wrap (c_r2 + (IntKind.i64.wrap (j' * t1_r4))))]]] : List PV))])) <|
          L tab C 99 [.log true []] [.lp [1, 1, 1, 1, 0], .lp [1, 0, 0, 1, 0], .lp [1, 0, 0, 1, 0]] (S99_11110_10010_10010_s1 t1_r0 t1_r1 t1_r2 t1_r3 t1_r4 t1_r5 r_' c_r0 c_r1 c_r2 depth' i' j' (IntKind.i64.wrap (k' + (1 : Int))) (b100000_b ++ ([.agg [.agg [.int .i64 (IntKind.i64.wrap (c_r0 + (IntKind.i64.wrap (i' * t1_r4)))), .int .i64 (IntKind.i64.wrap (c_r1 + (0 : Int))), .int .i64 (IntKind.i64.wrap (c_r2 + (IntKind.i64.wrap (j' * t1_r4))))]]] : List PV)))
        else
          bif (t1_r5 == (2 : Int)) then
            fork (some ([], [.log false (b100000_b ++ ([.agg [.agg [.int .i64 (IntKind.i64.wrap (c_r0 + (0 : Int))), .int .i64 (IntKind.i64.wrap (c_r1 + (IntKind.i64.wrap (i' * t1_r4)))), .int .i64 (IntKind.i64.wrap (c_r2 + (IntKind.i64.wrap (j' * t1_r4))))]]] : List PV))])) <|
            L tab C 99 [.log true []] [.lp [1, 1, 1, 1, 0], .lp [1, 0, 0, 1, 0], .lp [1, 0, 0, 1, 0]] (S99_11110_10010_10010_s1 t1_r0 t1_r1 t1_r2 t1_r3 t1_r4 t1_r5 r_' c_r0 c_r1 c_r2 depth' i' j' (IntKind.i64.wrap (k' + (1 : Int))) (b100000_b ++ ([.agg [.agg [.int .i64 (IntKind.i64.wrap (c_r0 + (0 : Int))), .int .i64 (IntKind.i64.wrap (c_r1 + (IntKind.i64.wrap (i' * t1_r4)))), .int .i64 (IntKind.i64.wrap (c_r2 + (IntKind.i64.wrap (j' * t1_r4))))]]] : List PV)))
          else
            fork (some ([], [.log false (b100000_b ++ ([.agg [.agg [.int .i64 (IntKind.i64.wrap (c_r0 + (IntKind.i64.wrap (i' * t1_r4)))), .int .i64 (IntKind.i64.wrap (c_r1 + (IntKind.i64.wrap (j' * t1_r4)))), .int .i64 (IntKind.i64.wrap (c_r2 + (IntKind.i64.wrap (k' * t1_r4))))]]] : List PV))])) <|
            L tab C 99 [.log true []] [.lp [1, 1, 1, 1, 0], .lp [1, 0, 0, 1, 0], .lp [1, 0, 0, 1, 0]] (S99_11110_10010_10010_s1 t1_r0 t1_r1 t1_r2 t1_r3 t1_r4 t1_r5 r_' c_r0 c_r1 c_r2 depth' i' j' (IntKind.i64.wrap (k' + (1 : Int))) (b100000_b ++ ([.agg [.agg [.int .i64 (IntKind.i64.wrap (c_r0 + (IntKind.i64.wrap (i' * t1_r4)))), .int .i64 (IntKind.i64.wrap (c_r1 + (IntKind.i64.wrap (j' * t1_r4)))), .int .i64 (IntKind.i64.wrap (c_r2 + (IntKind.i64.wrap (k' * t1_r4))))]]] : List PV)))
  else
    L tab C 99 [.log true []] [.lp [1, 1, 1, 1, 0], .lp [1, 0, 0, 1, 0]] (S99_11110_10010_s1 t1_r0 t1_r1 t1_r2 t1_r3 t1_r4 t1_r5 r_' c_r0 c_r1 c_r2 depth' i' (IntKind.i64.wrap (j' + (1 : Int))) b100000_b) := by kernel_rfl
theorem e99_11110_10010_s1 (C : CallF) (t1_r0 : Int) (t1_r1 : List PV) (t1_r2 : Int) (t1_r3 : Int) (t1_r4 : Int) (t1_r5 : Int) (r_' : Int) (c_r0 : Int) (c_r1 : Int) (c_r2 : Int) (depth' : Int) (i' : Int) (j' : Int) (b100000_b : List PV) : R tab C 99 [.log true []] [.lp [1, 1, 1, 1, 0], .lp [1, 0, 0, 1, 0]] (S99_11110_10010_s1 t1_r0 t1_r1 t1_r2 t1_r3 t1_r4 t1_r5 r_' c_r0 c_r1 c_r2 depth' i' j' b100000_b) =
  bif (leI j' (IntKind.i64.wrap (r_' + (1 : Int)))) then
    L tab C 99 [.log true []] [.lp [1, 1, 1, 1, 0], .lp [1, 0, 0, 1, 0], .lp [1, 0, 0, 1, 0]] (S99_11110_10010_10010_s1 t1_r0 t1_r1 t1_r2 t1_r3 t1_r4 t1_r5 r_' c_r0 c_r1 c_r2 depth' i' j' (IntKind.i64.wrap (0 - depth')) b100000_b)
  else
    L tab C 99 [.log true []] [.lp [1, 1, 1, 1, 0]] (S99_11110_s1 t1_r0 t1_r1 t1_r2 t1_r3 t1_r4 t1_r5 r_' c_r0 c_r1 c_r2 depth' (IntKind.i64.wrap (i' + (1 : Int))) b100000_b) := by kernel_rfl
theorem e99_11110_s1 (C : CallF) (t1_r0 : Int) (t1_r1 : List PV) (t1_r2 : Int) (t1_r3 : Int) (t1_r4 : Int) (t1_r5 : Int) (r_' : Int) (c_r0 : Int) (c_r1 : Int) (c_r2 : Int) (depth' : Int) (i' : Int) (b100000_b : List PV) : R tab C 99 [.log true []] [.lp [1, 1, 1, 1, 0]] (S99_11110_s1 t1_r0 t1_r1 t1_r2 t1_r3 t1_r4 t1_r5 r_' c_r0 c_r1 c_r2 depth' i' b100000_b) =
  bif (leI i' (IntKind.i64.wrap (r_' + (1 : Int)))) then
    L tab C 99 [.log true []] [.lp [1, 1, 1, 1, 0], .lp [1, 0, 0, 1, 0]] (S99_11110_10010_s1 t1_r0 t1_r1 t1_r2 t1_r3 t1_r4 t1_r5 r_' c_r0 c_r1 c_r2 depth' i' (IntKind.i64.wrap ((IntKind.i64.wrap (0 - r_')) - (1 : Int))) b100000_b)
  else
    some ([], [.log true b100000_b]) := by kernel_rfl
theorem e106 (C : CallF) (x : Int) : acallI tab C 106 [.p (.int .i64 x)] [] =
  some ([.p (.bool (x != x))], []) := by kernel_rfl
theorem e108 (C : CallF) (x : Int) (y : Int) (c0 : Int) (c1 : Int) : acallI tab C 108 [.p (.int .i64 x), .p (.int .i64 y), .p (.ref [.int .i64 c0]), .p (.ref [.int .i64 c1])] [] =
  bif (!(eqI (IntKind.i64.wrap ((2 : Int) * c1)) (0 : Int))) then bif (!(eqI (IntKind.i64.wrap ((2 : Int) * c1)) (0 : Int))) then bif (ltI ((IntKind.i64.wrap ((IntKind.i64.wrap ((IntKind.i64.wrap ((2 : Int) * (IntKind.i64.wrap (y - x)))) * c0)) + c1)).tmod (IntKind.i64.wrap ((2 : Int) * c1))) (0 : Int)) then
    some ([.p (.int .i64 (IntKind.i64.wrap (x + (IntKind.i64.wrap ((IntKind.i64.wrap ((IntKind.i64.wrap ((IntKind.i64.wrap ((IntKind.i64.wrap ((2 : Int) * (IntKind.i64.wrap (y - x)))) * c0)) + c1)).tdiv (IntKind.i64.wrap ((2 : Int) * c1)))) - (1 : Int))))))], [])
  else
    some ([.p (.int .i64 (IntKind.i64.wrap (x + (IntKind.i64.wrap ((IntKind.i64.wrap ((IntKind.i64.wrap ((IntKind.i64.wrap ((2 : Int) * (IntKind.i64.wrap (y - x)))) * c0)) + c1)).tdiv (IntKind.i64.wrap ((2 : Int) * c1)))))))], []) else none else none := by kernel_rfl
end Go.Skm.Sct
