/-
  What the machine does in each function of this program, and in each round of each loop; no condition.
-/
import Derived.Test.YtipkmkmngcjdbaaGreatDoorSkmE
import Derived.Test.YtipkmkmngcjdbaaGreatDoorTab
import Derived.KernelRfl
set_option maxRecDepth 100000
namespace Go.Skm.Fig
open Go Go.Skm
def S40_1111111010 (t49':List PV)(t50' t51':Int)(b17_b:List PV)(words_b0_o words_b0_l:Nat):St:=⟨.undef::.undef::.undef::.undef::.undef::(.ptr 5 0 0)::(.fn 74 [.ptr 5 0 0])::.undef::.undef::.undef::.undef::.undef::.undef::.undef::.undef::.undef::.undef::.undef::.undef::.undef::.undef::.undef::.undef::.undef::.undef::.undef::.undef::.undef::.undef::.undef::.undef::.undef::.undef::.undef::.undef::.undef::.undef::.undef::.undef::.undef::.undef::.undef::.undef::.undef::.undef::.undef::.undef::.undef::.undef::(.p (.list true kV3 t49'))::(.p (.int .i64 t50'))::(.p (.int .i64 t51'))::List.replicate 15 .undef,[(17,.arr false [.str] b17_b),(5,.box [.slice 17 1 words_b0_o words_b0_l])]⟩
theorem e40 (C:CallF) (s_0:Int)(s_1:List PV)(s_2 s_3 s_4 s_5:Int):acallI tab C 40 [.p (.agg [.int .i64 s_0,.list true kV3 s_1,.int .i64 s_2,.int .i64 s_3,.int .i64 s_4,.int .i64 s_5])] [] =
 (C 73 [.p (.int .i64 s_0)] []).bind fun r1 =>
 bif ((r1.1.headD .undef).pv.cell 3).toBool then
  (C 74 [.p (.list false [.int .i64] [.int .i64 s_2]),.ptr 100000 0 0] [.box [.slice 99999 1 0 1],.arr false [.str] [.str (((r1.1.headD .undef).pv.cell 0).toStr)]]).bind fun r2 =>
  bif ((r1.1.headD .undef).pv.cell 5).toBool then
   bif ((leI (0:Int) (IntKind.i64.wrap ((2:Int)*s_5)))&&((leI (IntKind.i64.wrap ((2:Int)*s_5)) (IntKind.i64.wrap ((IntKind.i64.wrap ((2:Int)*s_5))+(2:Int))))&&(leI (IntKind.i64.wrap ((IntKind.i64.wrap ((2:Int)*s_5))+(2:Int))) (6:Int)))) then bif (leN ((varV r2.2).sLen+1) 2147483648) then bif ((r1.1.headD .undef).pv.cell 4).toBool then
    (C 74 [.p (.list false [.int .i64] [.int .i64 s_3,.int .i64 s_4]),.ptr 100000 0 0] [.box [.slice 99999 1 0 ((varV r2.2).sLen+1)],.arr false [.str] ((((varXs r2.2).drop ((varV r2.2).sOff)).take ((varV r2.2).sLen))++([.str ((⟨#[120,121,120,122,121,122]⟩:ByteArray).extract ((IntKind.i64.wrap ((2:Int)*s_5)).toNat) ((IntKind.i64.wrap ((IntKind.i64.wrap ((2:Int)*s_5))+(2:Int))).toNat))]:List PV))]).bind fun r3 =>
    L tab C 40 [] [.lp [1,1,1,1,1,1,1,0,1,0]] (S40_1111111010 s_1 ((s_1.length:Nat):Int) 0 (varXs r3.2) ((varV r3.2).sOff) ((varV r3.2).sLen))
   else
    L tab C 40 [] [.lp [1,1,1,1,1,1,1,0,1,0]] (S40_1111111010 s_1 ((s_1.length:Nat):Int) 0 ((((varXs r2.2).drop ((varV r2.2).sOff)).take ((varV r2.2).sLen))++([.str ((⟨#[120,121,120,122,121,122]⟩:ByteArray).extract ((IntKind.i64.wrap ((2:Int)*s_5)).toNat) ((IntKind.i64.wrap ((IntKind.i64.wrap ((2:Int)*s_5))+(2:Int))).toNat))]:List PV)) 0 ((varV r2.2).sLen+1)) else none else none
  else
   bif ((r1.1.headD .undef).pv.cell 4).toBool then
    (C 74 [.p (.list false [.int .i64] [.int .i64 s_3,.int .i64 s_4]),.ptr 100000 0 0] [.box [.slice 99999 1 ((varV r2.2).sOff) ((varV r2.2).sLen)],.arr false [.str] (varXs r2.2)]).bind fun r4 =>
    L tab C 40 [] [.lp [1,1,1,1,1,1,1,0,1,0]] (S40_1111111010 s_1 ((s_1.length:Nat):Int) 0 (varXs r4.2) ((varV r4.2).sOff) ((varV r4.2).sLen))
   else
    L tab C 40 [] [.lp [1,1,1,1,1,1,1,0,1,0]] (S40_1111111010 s_1 ((s_1.length:Nat):Int) 0 (varXs r2.2) ((varV r2.2).sOff) ((varV r2.2).sLen))
 else
  bif ((r1.1.headD .undef).pv.cell 5).toBool then
   bif ((leI (0:Int) (IntKind.i64.wrap ((2:Int)*s_5)))&&((leI (IntKind.i64.wrap ((2:Int)*s_5)) (IntKind.i64.wrap ((IntKind.i64.wrap ((2:Int)*s_5))+(2:Int))))&&(leI (IntKind.i64.wrap ((IntKind.i64.wrap ((2:Int)*s_5))+(2:Int))) (6:Int)))) then bif ((r1.1.headD .undef).pv.cell 4).toBool then
    (C 74 [.p (.list false [.int .i64] [.int .i64 s_3,.int .i64 s_4]),.ptr 100000 0 0] [.box [.slice 99999 1 0 2],.arr false [.str] [.str (((r1.1.headD .undef).pv.cell 0).toStr),.str ((⟨#[120,121,120,122,121,122]⟩:ByteArray).extract ((IntKind.i64.wrap ((2:Int)*s_5)).toNat) ((IntKind.i64.wrap ((IntKind.i64.wrap ((2:Int)*s_5))+(2:Int))).toNat))]]).bind fun r5 =>
    L tab C 40 [] [.lp [1,1,1,1,1,1,1,0,1,0]] (S40_1111111010 s_1 ((s_1.length:Nat):Int) 0 (varXs r5.2) ((varV r5.2).sOff) ((varV r5.2).sLen))
   else
    L tab C 40 [] [.lp [1,1,1,1,1,1,1,0,1,0]] (S40_1111111010 s_1 ((s_1.length:Nat):Int) 0 [.str (((r1.1.headD .undef).pv.cell 0).toStr),.str ((⟨#[120,121,120,122,121,122]⟩:ByteArray).extract ((IntKind.i64.wrap ((2:Int)*s_5)).toNat) ((IntKind.i64.wrap ((IntKind.i64.wrap ((2:Int)*s_5))+(2:Int))).toNat))] 0 2) else none
  else
   bif ((r1.1.headD .undef).pv.cell 4).toBool then
    (C 74 [.p (.list false [.int .i64] [.int .i64 s_3,.int .i64 s_4]),.ptr 100000 0 0] [.box [.slice 99999 1 0 1],.arr false [.str] [.str (((r1.1.headD .undef).pv.cell 0).toStr)]]).bind fun r6 =>
    L tab C 40 [] [.lp [1,1,1,1,1,1,1,0,1,0]] (S40_1111111010 s_1 ((s_1.length:Nat):Int) 0 (varXs r6.2) ((varV r6.2).sOff) ((varV r6.2).sLen))
   else
    L tab C 40 [] [.lp [1,1,1,1,1,1,1,0,1,0]] (S40_1111111010 s_1 ((s_1.length:Nat):Int) 0 [.str (((r1.1.headD .undef).pv.cell 0).toStr)] 0 1):=by kernel_rfl
theorem e40_1111111010 (C:CallF) (t49':List PV)(t50' t51':Int)(b17_b:List PV)(words_b0_o words_b0_l:Nat):R tab C 40 [] [.lp [1,1,1,1,1,1,1,0,1,0]] (S40_1111111010 t49' t50' t51' b17_b words_b0_o words_b0_l) =
 bif (ltI t51' t50') then
  bif ((leI (0:Int) t51')&&(ltI t51' ((t49'.length:Nat):Int))) then(C 74 [.p (.list false [.int .i64] [.int .i64 (((t49'.getD t51'.toNat .nil).cell 0).toInt),.int .i64 (((t49'.getD t51'.toNat .nil).cell 1).toInt),.int .i64 (((t49'.getD t51'.toNat .nil).cell 2).toInt)]),.ptr 100000 0 0] [.box [.slice 99999 1 words_b0_o words_b0_l],.arr false [.str] b17_b]).bind fun r1 =>
  L tab C 40 [] [.lp [1,1,1,1,1,1,1,0,1,0]] (S40_1111111010 t49' t50' (IntKind.i64.wrap (t51'+(1:Int))) (varXs r1.2) ((varV r1.2).sOff) ((varV r1.2).sLen)) else none
 else
  (C 76 [.p (.list false [.str] ((b17_b.drop words_b0_o).take words_b0_l)),.p (.str ⟨#[32]⟩)] []).bind fun r2 =>
  some ([.p (.str ((r2.1.headD .undef).pv.toStr))],[]):=by kernel_rfl
def S44_1111010 (line':ByteArray)(kind' b2_b0 b2_b2 b2_b3 b2_b4 b2_b5:Int)(words_b0:List PV)(s_b0 s_b2 s_b3 s_b4 s_b5:Int)(r_b0:ByteArray)(r_b1 r_b2:Int)(r_b3 r_b4 r_b5:Bool):St:=⟨(.p (.str line'))::.undef::(.ptr 2 0 0)::.undef::(.ptr 4 0 0)::(.ptr 5 0 0)::(.ptr 6 0 0)::(.p (.int .i64 kind'))::List.replicate 78 .undef,[(2,.box [.p (.int .i64 b2_b0),.p (.nil),.p (.int .i64 b2_b2),.p (.int .i64 b2_b3),.p (.int .i64 b2_b4),.p (.int .i64 b2_b5)]),(4,.box [.p (.list false [.str] words_b0)]),(5,.box [.p (.int .i64 s_b0),.p (.nil),.p (.int .i64 s_b2),.p (.int .i64 s_b3),.p (.int .i64 s_b4),.p (.int .i64 s_b5)]),(6,.box [.p (.str r_b0),.p (.int .i64 r_b1),.p (.int .i64 r_b2),.p (.bool r_b3),.p (.bool r_b4),.p (.bool r_b5)])]⟩
def S44_111111111100 (line':ByteArray)(b2_b0 b2_b2 b2_b3 b2_b4 b2_b5:Int)(words_b0:List PV)(s_b0 s_b2 s_b3 s_b4 s_b5:Int):St:=⟨(.p (.str line'))::.undef::(.ptr 2 0 0)::.undef::(.ptr 4 0 0)::(.ptr 5 0 0)::.undef::.undef::.undef::.undef::(.fn 80 [.ptr 4 0 0])::List.replicate 75 .undef,[(2,.box [.p (.int .i64 b2_b0),.p (.nil),.p (.int .i64 b2_b2),.p (.int .i64 b2_b3),.p (.int .i64 b2_b4),.p (.int .i64 b2_b5)]),(4,.box [.p (.list false [.str] words_b0)]),(5,.box [.p (.int .i64 s_b0),.p (.nil),.p (.int .i64 s_b2),.p (.int .i64 s_b3),.p (.int .i64 s_b4),.p (.int .i64 s_b5)])]⟩
def S44_111111111100_s1 (line':ByteArray)(b2_b0 b2_b2 b2_b3 b2_b4 b2_b5:Int)(words_b0:List PV)(s_b0:Int)(s_b1_o s_b1_l:Nat)(s_b2 s_b3 s_b4 s_b5:Int)(b75_b:List PV):St:=⟨(.p (.str line'))::.undef::(.ptr 2 0 0)::.undef::(.ptr 4 0 0)::(.ptr 5 0 0)::.undef::.undef::.undef::.undef::(.fn 80 [.ptr 4 0 0])::List.replicate 75 .undef,[(2,.box [.p (.int .i64 b2_b0),.p (.nil),.p (.int .i64 b2_b2),.p (.int .i64 b2_b3),.p (.int .i64 b2_b4),.p (.int .i64 b2_b5)]),(4,.box [.p (.list false [.str] words_b0)]),(5,.box [.p (.int .i64 s_b0),.slice 75 3 s_b1_o s_b1_l,.p (.int .i64 s_b2),.p (.int .i64 s_b3),.p (.int .i64 s_b4),.p (.int .i64 s_b5)]),(75,.arr true kV3 b75_b)]⟩
theorem e44 (C:CallF) (line:ByteArray):acallI tab C 44 [.p (.str line)] [] =
 (C 79 [.p (.str line),.p (.str ⟨#[32]⟩)] []).bind fun r1 =>
 L tab C 44 [] [.lp [1,1,1,1,0,1,0]] (S44_1111010 line 1 0 0 0 0 0 ((r1.1.headD .undef).pv.toList) 0 0 0 0 0 ⟨#[]⟩ 0 0 false false false):=by kernel_rfl
theorem e44_1111010 (C:CallF) (line':ByteArray)(kind' b2_b0 b2_b2 b2_b3 b2_b4 b2_b5:Int)(words_b0:List PV)(s_b0 s_b2 s_b3 s_b4 s_b5:Int)(r_b0:ByteArray)(r_b1 r_b2:Int)(r_b3 r_b4 r_b5:Bool):R tab C 44 [] [.lp [1,1,1,1,0,1,0]] (S44_1111010 line' kind' b2_b0 b2_b2 b2_b3 b2_b4 b2_b5 words_b0 s_b0 s_b2 s_b3 s_b4 s_b5 r_b0 r_b1 r_b2 r_b3 r_b4 r_b5) =
 bif (leI kind' (5:Int)) then
  (C 73 [.p (.int .i64 kind')] []).bind fun r1 =>
  bif (ltI (0:Int) ((words_b0.length:Nat):Int)) then bif ((((r1.1.headD .undef).pv.cell 0).toStr).toList==(((words_b0.getD 0 .nil).cell 0).toStr).toList) then
   L tab C 44 [] [.lp [1,1,1,1,0,1,0]] (S44_1111010 line' (IntKind.i64.wrap (kind'+(1:Int))) b2_b0 b2_b2 b2_b3 b2_b4 b2_b5 words_b0 kind' s_b2 s_b3 s_b4 s_b5 (((r1.1.headD .undef).pv.cell 0).toStr) (((r1.1.headD .undef).pv.cell 1).toInt) (((r1.1.headD .undef).pv.cell 2).toInt) (((r1.1.headD .undef).pv.cell 3).toBool) (((r1.1.headD .undef).pv.cell 4).toBool) (((r1.1.headD .undef).pv.cell 5).toBool))
  else
   L tab C 44 [] [.lp [1,1,1,1,0,1,0]] (S44_1111010 line' (IntKind.i64.wrap (kind'+(1:Int))) b2_b0 b2_b2 b2_b3 b2_b4 b2_b5 words_b0 s_b0 s_b2 s_b3 s_b4 s_b5 r_b0 r_b1 r_b2 r_b3 r_b4 r_b5) else none
 else
  bif ((leI (1:Int) ((words_b0.length:Nat):Int))&&((leI ((words_b0.length:Nat):Int) ((words_b0.length:Nat):Int))&&(leI ((words_b0.length:Nat):Int) ((words_b0.length:Nat):Int)))) then bif r_b3 then
   (C 80 [.ptr 100000 0 0] [.box [.p (.list false [.str] ((words_b0.drop 1).take ((((words_b0.length:Nat):Int)-(1:Int)).toNat)))]]).bind fun r2 =>
   bif r_b5 then
    bif (gtI (((((r2.2.headD (.box [])).cs.getD 0 .undef).pv.toList).length:Nat):Int) (0:Int)) then
     bif (ltI (0:Int) (((((r2.2.headD (.box [])).cs.getD 0 .undef).pv.toList).length:Nat):Int)) then(C 82 [.p (.str ⟨#[120,121,120,122,121,122]⟩),.p (.str ((((((r2.2.headD (.box [])).cs.getD 0 .undef).pv.toList).getD 0 .nil).cell 0).toStr))] []).bind fun r3 =>
     bif ((leI (1:Int) (((((r2.2.headD (.box [])).cs.getD 0 .undef).pv.toList).length:Nat):Int))&&((leI (((((r2.2.headD (.box [])).cs.getD 0 .undef).pv.toList).length:Nat):Int) (((((r2.2.headD (.box [])).cs.getD 0 .undef).pv.toList).length:Nat):Int))&&(leI (((((r2.2.headD (.box [])).cs.getD 0 .undef).pv.toList).length:Nat):Int) (((((r2.2.headD (.box [])).cs.getD 0 .undef).pv.toList).length:Nat):Int)))) then bif r_b4 then
      (C 80 [.ptr 100000 0 0] [.box [.p (.list false [.str] (((((r2.2.headD (.box [])).cs.getD 0 .undef).pv.toList).drop 1).take (((((((r2.2.headD (.box [])).cs.getD 0 .undef).pv.toList).length:Nat):Int)-(1:Int)).toNat)))]]).bind fun r4 =>
      (C 80 [.ptr 100000 0 0] [.box [.p (.list false [.str] (((r4.2.headD (.box [])).cs.getD 0 .undef).pv.toList))]]).bind fun r5 =>
      L tab C 44 [] [.lp [1,1,1,1,1,1,1,1,1,1,0,0]] (S44_111111111100 line' b2_b0 b2_b2 b2_b3 b2_b4 b2_b5 (((r5.2.headD (.box [])).cs.getD 0 .undef).pv.toList) s_b0 ((r2.1.headD .undef).pv.toInt) ((r4.1.headD .undef).pv.toInt) ((r5.1.headD .undef).pv.toInt) (IntKind.i64.wrap (((r3.1.headD .undef).pv.toInt).tdiv (2:Int))))
     else
      L tab C 44 [] [.lp [1,1,1,1,1,1,1,1,1,1,0,0]] (S44_111111111100 line' b2_b0 b2_b2 b2_b3 b2_b4 b2_b5 (((((r2.2.headD (.box [])).cs.getD 0 .undef).pv.toList).drop 1).take (((((((r2.2.headD (.box [])).cs.getD 0 .undef).pv.toList).length:Nat):Int)-(1:Int)).toNat)) s_b0 ((r2.1.headD .undef).pv.toInt) s_b3 s_b4 (IntKind.i64.wrap (((r3.1.headD .undef).pv.toInt).tdiv (2:Int)))) else none else none
    else
     bif r_b4 then
      (C 80 [.ptr 100000 0 0] [.box [.p (.list false [.str] (((r2.2.headD (.box [])).cs.getD 0 .undef).pv.toList))]]).bind fun r6 =>
      (C 80 [.ptr 100000 0 0] [.box [.p (.list false [.str] (((r6.2.headD (.box [])).cs.getD 0 .undef).pv.toList))]]).bind fun r7 =>
      L tab C 44 [] [.lp [1,1,1,1,1,1,1,1,1,1,0,0]] (S44_111111111100 line' b2_b0 b2_b2 b2_b3 b2_b4 b2_b5 (((r7.2.headD (.box [])).cs.getD 0 .undef).pv.toList) s_b0 ((r2.1.headD .undef).pv.toInt) ((r6.1.headD .undef).pv.toInt) ((r7.1.headD .undef).pv.toInt) s_b5)
     else
      L tab C 44 [] [.lp [1,1,1,1,1,1,1,1,1,1,0,0]] (S44_111111111100 line' b2_b0 b2_b2 b2_b3 b2_b4 b2_b5 (((r2.2.headD (.box [])).cs.getD 0 .undef).pv.toList) s_b0 ((r2.1.headD .undef).pv.toInt) s_b3 s_b4 s_b5)
   else
    bif r_b4 then
     (C 80 [.ptr 100000 0 0] [.box [.p (.list false [.str] (((r2.2.headD (.box [])).cs.getD 0 .undef).pv.toList))]]).bind fun r8 =>
     (C 80 [.ptr 100000 0 0] [.box [.p (.list false [.str] (((r8.2.headD (.box [])).cs.getD 0 .undef).pv.toList))]]).bind fun r9 =>
     L tab C 44 [] [.lp [1,1,1,1,1,1,1,1,1,1,0,0]] (S44_111111111100 line' b2_b0 b2_b2 b2_b3 b2_b4 b2_b5 (((r9.2.headD (.box [])).cs.getD 0 .undef).pv.toList) s_b0 ((r2.1.headD .undef).pv.toInt) ((r8.1.headD .undef).pv.toInt) ((r9.1.headD .undef).pv.toInt) s_b5)
    else
     L tab C 44 [] [.lp [1,1,1,1,1,1,1,1,1,1,0,0]] (S44_111111111100 line' b2_b0 b2_b2 b2_b3 b2_b4 b2_b5 (((r2.2.headD (.box [])).cs.getD 0 .undef).pv.toList) s_b0 ((r2.1.headD .undef).pv.toInt) s_b3 s_b4 s_b5)
  else
   bif r_b5 then
    bif (gtI ((((words_b0.drop 1).take ((((words_b0.length:Nat):Int)-(1:Int)).toNat)).length:Nat):Int) (0:Int)) then
     bif (ltI (0:Int) ((((words_b0.drop 1).take ((((words_b0.length:Nat):Int)-(1:Int)).toNat)).length:Nat):Int)) then(C 82 [.p (.str ⟨#[120,121,120,122,121,122]⟩),.p (.str (((((words_b0.drop 1).take ((((words_b0.length:Nat):Int)-(1:Int)).toNat)).getD 0 .nil).cell 0).toStr))] []).bind fun r10 =>
     bif ((leI (1:Int) ((((words_b0.drop 1).take ((((words_b0.length:Nat):Int)-(1:Int)).toNat)).length:Nat):Int))&&((leI ((((words_b0.drop 1).take ((((words_b0.length:Nat):Int)-(1:Int)).toNat)).length:Nat):Int) ((((words_b0.drop 1).take ((((words_b0.length:Nat):Int)-(1:Int)).toNat)).length:Nat):Int))&&(leI ((((words_b0.drop 1).take ((((words_b0.length:Nat):Int)-(1:Int)).toNat)).length:Nat):Int) ((((words_b0.drop 1).take ((((words_b0.length:Nat):Int)-(1:Int)).toNat)).length:Nat):Int)))) then bif r_b4 then
      (C 80 [.ptr 100000 0 0] [.box [.p (.list false [.str] ((((words_b0.drop 1).take ((((words_b0.length:Nat):Int)-(1:Int)).toNat)).drop 1).take ((((((words_b0.drop 1).take ((((words_b0.length:Nat):Int)-(1:Int)).toNat)).length:Nat):Int)-(1:Int)).toNat)))]]).bind fun r11 =>
      (C 80 [.ptr 100000 0 0] [.box [.p (.list false [.str] (((r11.2.headD (.box [])).cs.getD 0 .undef).pv.toList))]]).bind fun r12 =>
      L tab C 44 [] [.lp [1,1,1,1,1,1,1,1,1,1,0,0]] (S44_111111111100 line' b2_b0 b2_b2 b2_b3 b2_b4 b2_b5 (((r12.2.headD (.box [])).cs.getD 0 .undef).pv.toList) s_b0 s_b2 ((r11.1.headD .undef).pv.toInt) ((r12.1.headD .undef).pv.toInt) (IntKind.i64.wrap (((r10.1.headD .undef).pv.toInt).tdiv (2:Int))))
     else
      L tab C 44 [] [.lp [1,1,1,1,1,1,1,1,1,1,0,0]] (S44_111111111100 line' b2_b0 b2_b2 b2_b3 b2_b4 b2_b5 ((((words_b0.drop 1).take ((((words_b0.length:Nat):Int)-(1:Int)).toNat)).drop 1).take ((((((words_b0.drop 1).take ((((words_b0.length:Nat):Int)-(1:Int)).toNat)).length:Nat):Int)-(1:Int)).toNat)) s_b0 s_b2 s_b3 s_b4 (IntKind.i64.wrap (((r10.1.headD .undef).pv.toInt).tdiv (2:Int)))) else none else none
    else
     bif r_b4 then
      (C 80 [.ptr 100000 0 0] [.box [.p (.list false [.str] ((words_b0.drop 1).take ((((words_b0.length:Nat):Int)-(1:Int)).toNat)))]]).bind fun r13 =>
      (C 80 [.ptr 100000 0 0] [.box [.p (.list false [.str] (((r13.2.headD (.box [])).cs.getD 0 .undef).pv.toList))]]).bind fun r14 =>
      L tab C 44 [] [.lp [1,1,1,1,1,1,1,1,1,1,0,0]] (S44_111111111100 line' b2_b0 b2_b2 b2_b3 b2_b4 b2_b5 (((r14.2.headD (.box [])).cs.getD 0 .undef).pv.toList) s_b0 s_b2 ((r13.1.headD .undef).pv.toInt) ((r14.1.headD .undef).pv.toInt) s_b5)
     else
      L tab C 44 [] [.lp [1,1,1,1,1,1,1,1,1,1,0,0]] (S44_111111111100 line' b2_b0 b2_b2 b2_b3 b2_b4 b2_b5 ((words_b0.drop 1).take ((((words_b0.length:Nat):Int)-(1:Int)).toNat)) s_b0 s_b2 s_b3 s_b4 s_b5)
   else
    bif r_b4 then
     (C 80 [.ptr 100000 0 0] [.box [.p (.list false [.str] ((words_b0.drop 1).take ((((words_b0.length:Nat):Int)-(1:Int)).toNat)))]]).bind fun r15 =>
     (C 80 [.ptr 100000 0 0] [.box [.p (.list false [.str] (((r15.2.headD (.box [])).cs.getD 0 .undef).pv.toList))]]).bind fun r16 =>
     L tab C 44 [] [.lp [1,1,1,1,1,1,1,1,1,1,0,0]] (S44_111111111100 line' b2_b0 b2_b2 b2_b3 b2_b4 b2_b5 (((r16.2.headD (.box [])).cs.getD 0 .undef).pv.toList) s_b0 s_b2 ((r15.1.headD .undef).pv.toInt) ((r16.1.headD .undef).pv.toInt) s_b5)
    else
     L tab C 44 [] [.lp [1,1,1,1,1,1,1,1,1,1,0,0]] (S44_111111111100 line' b2_b0 b2_b2 b2_b3 b2_b4 b2_b5 ((words_b0.drop 1).take ((((words_b0.length:Nat):Int)-(1:Int)).toNat)) s_b0 s_b2 s_b3 s_b4 s_b5) else none:=by kernel_rfl
theorem e44_111111111100 (C:CallF) (line':ByteArray)(b2_b0 b2_b2 b2_b3 b2_b4 b2_b5:Int)(words_b0:List PV)(s_b0 s_b2 s_b3 s_b4 s_b5:Int):R tab C 44 [] [.lp [1,1,1,1,1,1,1,1,1,1,0,0]] (S44_111111111100 line' b2_b0 b2_b2 b2_b3 b2_b4 b2_b5 words_b0 s_b0 s_b2 s_b3 s_b4 s_b5) =
 bif (gtI ((words_b0.length:Nat):Int) (0:Int)) then
  (C 80 [.ptr 100000 0 0] [.box [.p (.list false [.str] words_b0)]]).bind fun r1 =>
  (C 80 [.ptr 100000 0 0] [.box [.p (.list false [.str] (((r1.2.headD (.box [])).cs.getD 0 .undef).pv.toList))]]).bind fun r2 =>
  (C 80 [.ptr 100000 0 0] [.box [.p (.list false [.str] (((r2.2.headD (.box [])).cs.getD 0 .undef).pv.toList))]]).bind fun r3 =>
  L tab C 44 [] [.lp [1,1,1,1,1,1,1,1,1,1,0,0]] (S44_111111111100_s1 line' b2_b0 b2_b2 b2_b3 b2_b4 b2_b5 (((r3.2.headD (.box [])).cs.getD 0 .undef).pv.toList) s_b0 0 1 s_b2 s_b3 s_b4 s_b5 [.agg [.int .i64 ((r1.1.headD .undef).pv.toInt),.int .i64 ((r2.1.headD .undef).pv.toInt),.int .i64 ((r3.1.headD .undef).pv.toInt)]])
 else
  (C 54 [.p (.agg [.int .i64 s_b0,.nil,.int .i64 s_b2,.int .i64 s_b3,.int .i64 s_b4,.int .i64 s_b5])] []).bind fun r4 =>
  bif (r4.1.headD .undef).pv.toBool then
   (C 40 [.p (.agg [.int .i64 s_b0,.nil,.int .i64 s_b2,.int .i64 s_b3,.int .i64 s_b4,.int .i64 s_b5])] []).bind fun r5 =>
   some ([.p (.agg [.int .i64 s_b0,.nil,.int .i64 s_b2,.int .i64 s_b3,.int .i64 s_b4,.int .i64 s_b5]),.p (.bool (((r5.1.headD .undef).pv.toStr).toList==line'.toList))],[])
  else
   some ([.p (.agg [.int .i64 s_b0,.nil,.int .i64 s_b2,.int .i64 s_b3,.int .i64 s_b4,.int .i64 s_b5]),.p (.bool false)],[]):=by kernel_rfl
theorem e44_111111111100_s1 (C:CallF) (line':ByteArray)(b2_b0 b2_b2 b2_b3 b2_b4 b2_b5:Int)(words_b0:List PV)(s_b0:Int)(s_b1_o s_b1_l:Nat)(s_b2 s_b3 s_b4 s_b5:Int)(b75_b:List PV):R tab C 44 [] [.lp [1,1,1,1,1,1,1,1,1,1,0,0]] (S44_111111111100_s1 line' b2_b0 b2_b2 b2_b3 b2_b4 b2_b5 words_b0 s_b0 s_b1_o s_b1_l s_b2 s_b3 s_b4 s_b5 b75_b) =
 bif (gtI ((words_b0.length:Nat):Int) (0:Int)) then
  (C 80 [.ptr 100000 0 0] [.box [.p (.list false [.str] words_b0)]]).bind fun r1 =>
  (C 80 [.ptr 100000 0 0] [.box [.p (.list false [.str] (((r1.2.headD (.box [])).cs.getD 0 .undef).pv.toList))]]).bind fun r2 =>
  (C 80 [.ptr 100000 0 0] [.box [.p (.list false [.str] (((r2.2.headD (.box [])).cs.getD 0 .undef).pv.toList))]]).bind fun r3 =>
  bif (leN (s_b1_l+1) 2147483648) then L tab C 44 [] [.lp [1,1,1,1,1,1,1,1,1,1,0,0]] (S44_111111111100_s1 line' b2_b0 b2_b2 b2_b3 b2_b4 b2_b5 (((r3.2.headD (.box [])).cs.getD 0 .undef).pv.toList) s_b0 0 (s_b1_l+1) s_b2 s_b3 s_b4 s_b5 (((b75_b.drop s_b1_o).take s_b1_l)++([.agg [.int .i64 ((r1.1.headD .undef).pv.toInt),.int .i64 ((r2.1.headD .undef).pv.toInt),.int .i64 ((r3.1.headD .undef).pv.toInt)]]:List PV))) else none
 else
  (C 54 [.p (.agg [.int .i64 s_b0,.list true kV3 ((b75_b.drop s_b1_o).take s_b1_l),.int .i64 s_b2,.int .i64 s_b3,.int .i64 s_b4,.int .i64 s_b5])] []).bind fun r4 =>
  bif (r4.1.headD .undef).pv.toBool then
   (C 40 [.p (.agg [.int .i64 s_b0,.list true kV3 ((b75_b.drop s_b1_o).take s_b1_l),.int .i64 s_b2,.int .i64 s_b3,.int .i64 s_b4,.int .i64 s_b5])] []).bind fun r5 =>
   some ([.p (.agg [.int .i64 s_b0,.list true kV3 ((b75_b.drop s_b1_o).take s_b1_l),.int .i64 s_b2,.int .i64 s_b3,.int .i64 s_b4,.int .i64 s_b5]),.p (.bool (((r5.1.headD .undef).pv.toStr).toList==line'.toList))],[])
  else
   some ([.p (.agg [.int .i64 s_b0,.list true kV3 ((b75_b.drop s_b1_o).take s_b1_l),.int .i64 s_b2,.int .i64 s_b3,.int .i64 s_b4,.int .i64 s_b5]),.p (.bool false)],[]):=by kernel_rfl
theorem e47 (C:CallF) (v_0 v_1 v_2:Int):acallI tab C 47 [.p (.agg [.int .i64 v_0,.int .i64 v_1,.int .i64 v_2])] [] =
 (C 61 [.p (.int .i64 16777216),.p (.list false [.int .i64] [.int .i64 v_0,.int .i64 v_1,.int .i64 v_2])] []).bind fun r1 =>
 some ([.p (.bool ((r1.1.headD .undef).pv.toBool))],[]):=by kernel_rfl
theorem e49 (C:CallF) (a_0 a_1 a_2 b_0 b_1 b_2:Int):acallI tab C 49 [.p (.agg [.int .i64 a_0,.int .i64 a_1,.int .i64 a_2]),.p (.agg [.int .i64 b_0,.int .i64 b_1,.int .i64 b_2])] [] =
 (C 47 [.p (.agg [.int .i64 a_0,.int .i64 a_1,.int .i64 a_2])] []).bind fun r1 =>
 bif (!(r1.1.headD .undef).pv.toBool) then
  some ([.p (.agg [.int .i64 0,.int .i64 0,.int .i64 0]),.p (.int .i64 2)],[])
 else
  (C 47 [.p (.agg [.int .i64 b_0,.int .i64 b_1,.int .i64 b_2])] []).bind fun r2 =>
  bif (!(r2.1.headD .undef).pv.toBool) then
   some ([.p (.agg [.int .i64 0,.int .i64 0,.int .i64 0]),.p (.int .i64 2)],[])
  else
   (C 85 [.p (.agg [.int .i64 a_0,.int .i64 a_1,.int .i64 a_2]),.p (.agg [.int .i64 b_0,.int .i64 b_1,.int .i64 b_2]),.p (.fn 86 [])] []).bind fun r3 =>
   (C 84 [.p (.agg [.int .i64 (((r3.1.headD .undef).pv.cell 0).toInt),.int .i64 (((r3.1.headD .undef).pv.cell 1).toInt),.int .i64 (((r3.1.headD .undef).pv.cell 2).toInt)])] []).bind fun r4 =>
   some ([.p (.agg [.int .i64 (((r4.1.headD .undef).pv.cell 0).toInt),.int .i64 (((r4.1.headD .undef).pv.cell 1).toInt),.int .i64 (((r4.1.headD .undef).pv.cell 2).toInt)]),.p (.int .i64 ((r4.1.tail.headD .undef).pv.toInt))],[]):=by kernel_rfl
def S50_1010 (most' i' v_b0 v_b1 v_b2:Int):St:=⟨.undef::(.p (.int .i64 most'))::(.ptr 2 0 0)::.undef::.undef::(.p (.int .i64 i'))::List.replicate 17 .undef,[(2,.box [.p (.int .i64 v_b0),.p (.int .i64 v_b1),.p (.int .i64 v_b2)])]⟩
theorem e50 (C:CallF) (v_0 v_1 v_2 most:Int):acallI tab C 50 [.p (.agg [.int .i64 v_0,.int .i64 v_1,.int .i64 v_2]),.p (.int .i64 most)] [] =
 L tab C 50 [] [.lp [1,0,1,0]] (S50_1010 most 0 v_0 v_1 v_2):=by kernel_rfl
theorem e50_1010 (C:CallF) (most' i' v_b0 v_b1 v_b2:Int):R tab C 50 [] [.lp [1,0,1,0]] (S50_1010 most' i' v_b0 v_b1 v_b2) =
 bif (ltI i' (3:Int)) then
  (C 87 [.p (.agg [.int .i64 v_b0,.int .i64 v_b1,.int .i64 v_b2]),.p (.int .i64 i')] []).bind fun r1 =>
  bif (gtI ((r1.1.headD .undef).pv.toInt) most') then
   some ([.p (.bool false)],[])
  else
   (C 87 [.p (.agg [.int .i64 v_b0,.int .i64 v_b1,.int .i64 v_b2]),.p (.int .i64 i')] []).bind fun r2 =>
   bif (ltI ((r2.1.headD .undef).pv.toInt) (IntKind.i64.wrap (0-most'))) then
    some ([.p (.bool false)],[])
   else
    L tab C 50 [] [.lp [1,0,1,0]] (S50_1010 most' (IntKind.i64.wrap (i'+(1:Int))) v_b0 v_b1 v_b2)
 else
  some ([.p (.bool true)],[]):=by kernel_rfl
theorem e51 (C:CallF) (v_0 v_1 v_2:Int):acallI tab C 51 [.p (.agg [.int .i64 v_0,.int .i64 v_1,.int .i64 v_2])] [] =
 some ([.p (.agg [.int .i64 (IntKind.i64.wrap (0-v_0)),.int .i64 (IntKind.i64.wrap (0-v_1)),.int .i64 (IntKind.i64.wrap (0-v_2))])],[]):=by kernel_rfl
theorem e52 (C:CallF) (s:List PV):acallI tab C 52 [.p (.list true kSh s),.p (.fn 53 [])] [] =
 (C 88 [.p (.list true kSh s),.p (.fn 53 [])] []).bind fun r1 =>
 some ([.p (.bool (geI ((r1.1.headD .undef).pv.toInt) (0:Int)))],[]):=by kernel_rfl
theorem e53 (C:CallF) (s_0:Int)(s_1:List PV)(s_2 s_3 s_4 s_5:Int):acallI tab C 53 [.p (.agg [.int .i64 s_0,.list true kV3 s_1,.int .i64 s_2,.int .i64 s_3,.int .i64 s_4,.int .i64 s_5])] [] =
 (C 54 [.p (.agg [.int .i64 s_0,.list true kV3 s_1,.int .i64 s_2,.int .i64 s_3,.int .i64 s_4,.int .i64 s_5])] []).bind fun r1 =>
 some ([.p (.bool (!(r1.1.headD .undef).pv.toBool))],[]):=by kernel_rfl
theorem e54 (C:CallF) (s_0:Int)(s_1:List PV)(s_2 s_3 s_4 s_5:Int):acallI tab C 54 [.p (.agg [.int .i64 s_0,.list true kV3 s_1,.int .i64 s_2,.int .i64 s_3,.int .i64 s_4,.int .i64 s_5])] [] =
 (C 73 [.p (.int .i64 s_0)] []).bind fun r1 =>
 bif (!(r1.1.tail.headD .undef).pv.toBool) then
  some ([.p (.bool false)],[])
 else
  bif (ltI ((s_1.length:Nat):Int) (((r1.1.headD .undef).pv.cell 1).toInt)) then
   some ([.p (.bool false)],[])
  else
   bif (gtI ((s_1.length:Nat):Int) (((r1.1.headD .undef).pv.cell 2).toInt)) then
    some ([.p (.bool false)],[])
   else
    bif (s_5 != (0:Int)) then
     bif (!((r1.1.headD .undef).pv.cell 5).toBool) then
      some ([.p (.bool false)],[])
     else
      bif (ltI s_5 (0:Int)) then
       some ([.p (.bool false)],[])
      else
       bif (gtI s_5 (2:Int)) then
        some ([.p (.bool false)],[])
       else
        (C 89 [.p (.bool (((r1.1.headD .undef).pv.cell 3).toBool)),.p (.int .i64 s_2),.p (.int .i64 500)] []).bind fun r2 =>
        bif (r2.1.headD .undef).pv.toBool then
         (C 89 [.p (.bool (((r1.1.headD .undef).pv.cell 4).toBool)),.p (.int .i64 s_3),.p (.int .i64 50)] []).bind fun r3 =>
         bif (r3.1.headD .undef).pv.toBool then
          (C 89 [.p (.bool (((r1.1.headD .undef).pv.cell 4).toBool)),.p (.int .i64 s_4),.p (.int .i64 10000)] []).bind fun r4 =>
          bif (r4.1.headD .undef).pv.toBool then
           (C 90 [.p (.list true kV3 s_1),.p (.fn 91 [])] []).bind fun r5 =>
           some ([.p (.bool (!(r5.1.headD .undef).pv.toBool))],[])
          else
           some ([.p (.bool false)],[])
         else
          some ([.p (.bool false)],[])
        else
         some ([.p (.bool false)],[])
    else
     (C 89 [.p (.bool (((r1.1.headD .undef).pv.cell 3).toBool)),.p (.int .i64 s_2),.p (.int .i64 500)] []).bind fun r6 =>
     bif (r6.1.headD .undef).pv.toBool then
      (C 89 [.p (.bool (((r1.1.headD .undef).pv.cell 4).toBool)),.p (.int .i64 s_3),.p (.int .i64 50)] []).bind fun r7 =>
      bif (r7.1.headD .undef).pv.toBool then
       (C 89 [.p (.bool (((r1.1.headD .undef).pv.cell 4).toBool)),.p (.int .i64 s_4),.p (.int .i64 10000)] []).bind fun r8 =>
       bif (r8.1.headD .undef).pv.toBool then
        (C 90 [.p (.list true kV3 s_1),.p (.fn 91 [])] []).bind fun r9 =>
        some ([.p (.bool (!(r9.1.headD .undef).pv.toBool))],[])
       else
        some ([.p (.bool false)],[])
      else
       some ([.p (.bool false)],[])
     else
      some ([.p (.bool false)],[]):=by kernel_rfl
theorem e58 (C:CallF) (s:List PV):acallI tab C 58 [.p (.list true kV3 s)] [] =
 some ([.p (.fn 92 [.ref [.list true kV3 s]])],[]):=by kernel_rfl
theorem e59 (C:CallF) (s_0:Int)(s_1:List PV)(s_2 s_3 s_4 s_5:Int):acallI tab C 59 [.p (.agg [.int .i64 s_0,.list true kV3 s_1,.int .i64 s_2,.int .i64 s_3,.int .i64 s_4,.int .i64 s_5])] [] =
 some ([.p (.fn 93 [.ref [.int .i64 s_0,.list true kV3 s_1,.int .i64 s_2,.int .i64 s_3,.int .i64 s_4,.int .i64 s_5]])],[]):=by kernel_rfl
theorem e60 (C:CallF) (s_0:Int)(s_1:List PV)(s_2 s_3 s_4 s_5:Int):acallI tab C 60 [.p (.agg [.int .i64 s_0,.list true kV3 s_1,.int .i64 s_2,.int .i64 s_3,.int .i64 s_4,.int .i64 s_5])] [] =
 some ([.p (.fn 95 [.ref [.int .i64 s_0,.list true kV3 s_1,.int .i64 s_2,.int .i64 s_3,.int .i64 s_4,.int .i64 s_5]])],[]):=by kernel_rfl
def S61_1010 (most':Int)(t7':List PV)(t8' t9':Int):St:=⟨(.p (.int .i64 most'))::.undef::.undef::.undef::.undef::.undef::.undef::(.p (.list false [.int .i64] t7'))::(.p (.int .i64 t8'))::(.p (.int .i64 t9'))::List.replicate 13 .undef,[]⟩
theorem e61 (C:CallF) (most:Int)(numbers:List PV):acallI tab C 61 [.p (.int .i64 most),.p (.list false [.int .i64] numbers)] [] =
 L tab C 61 [] [.lp [1,0,1,0]] (S61_1010 most numbers ((numbers.length:Nat):Int) 0):=by kernel_rfl
theorem e61_1010 (C:CallF) (most':Int)(t7':List PV)(t8' t9':Int):R tab C 61 [] [.lp [1,0,1,0]] (S61_1010 most' t7' t8' t9') =
 bif (ltI t9' t8') then
  bif ((leI (0:Int) t9')&&(ltI t9' ((t7'.length:Nat):Int))) then bif (ltI (((t7'.getD t9'.toNat .nil).cell 0).toInt) (IntKind.i64.wrap (0-most'))) then
   some ([.p (.bool false)],[])
  else
   bif (gtI (((t7'.getD t9'.toNat .nil).cell 0).toInt) most') then
    some ([.p (.bool false)],[])
   else
    L tab C 61 [] [.lp [1,0,1,0]] (S61_1010 most' t7' t8' (IntKind.i64.wrap (t9'+(1:Int)))) else none
 else
  some ([.p (.bool true)],[]):=by kernel_rfl
theorem e65 (C:CallF) (v_0 v_1 v_2:Int):acallI tab C 65 [.p (.agg [.int .i64 v_0,.int .i64 v_1,.int .i64 v_2])] [] =
 some ([.p (.agg [.int .i64 v_0,.int .i64 v_1,.int .i64 v_2])],[]):=by kernel_rfl
def S66_1010 (s1' s2' t9':List PV)(t10' t11':Int):St:=⟨(.p (.list false [.int .i64] s1'))::(.p (.list false [.int .i64] s2'))::.undef::.undef::.undef::.undef::.undef::.undef::.undef::(.p (.list false [.int .i64] t9'))::(.p (.int .i64 t10'))::(.p (.int .i64 t11'))::List.replicate 24 .undef,[]⟩
theorem e66 (C:CallF) (s1 s2:List PV):acallI tab C 66 [.p (.list false [.int .i64] s1),.p (.list false [.int .i64] s2)] [] =
 L tab C 66 [] [.lp [1,0,1,0]] (S66_1010 s1 s2 s1 ((s1.length:Nat):Int) 0):=by kernel_rfl
theorem e66_1010 (C:CallF) (s1' s2' t9':List PV)(t10' t11':Int):R tab C 66 [] [.lp [1,0,1,0]] (S66_1010 s1' s2' t9' t10' t11') =
 bif (ltI t11' t10') then
  bif ((leI (0:Int) t11')&&(ltI t11' ((t9'.length:Nat):Int))) then bif (geI t11' ((s2'.length:Nat):Int)) then
   some ([.p (.int .i64 1)],[])
  else
   bif ((leI (0:Int) t11')&&(ltI t11' ((s2'.length:Nat):Int))) then(C 99 [.p (.int .i64 (((t9'.getD t11'.toNat .nil).cell 0).toInt)),.p (.int .i64 (((s2'.getD t11'.toNat .nil).cell 0).toInt))] []).bind fun r1 =>
   bif ((r1.1.headD .undef).pv.toInt != (0:Int)) then
    some ([.p (.int .i64 ((r1.1.headD .undef).pv.toInt))],[])
   else
    L tab C 66 [] [.lp [1,0,1,0]] (S66_1010 s1' s2' t9' t10' (IntKind.i64.wrap (t11'+(1:Int)))) else none else none
 else
  bif (ltI ((s1'.length:Nat):Int) ((s2'.length:Nat):Int)) then
   some ([.p (.int .i64 (-1))],[])
  else
   some ([.p (.int .i64 0)],[]):=by kernel_rfl
def S68_11010 (many':Int)(out_o out_l:Nat)(k' a_b0 a_b1 a_b2 b_b0 b_b1 b_b2:Int)(out_b:List PV):St:=⟨.undef::.undef::(.p (.int .i64 many'))::(.ptr 3 0 0)::(.ptr 4 0 0)::.undef::.undef::(.slice 7 3 out_o out_l)::(.p (.int .i64 k'))::List.replicate 14 .undef,[(3,.box [.p (.int .i64 a_b0),.p (.int .i64 a_b1),.p (.int .i64 a_b2)]),(4,.box [.p (.int .i64 b_b0),.p (.int .i64 b_b1),.p (.int .i64 b_b2)]),(7,.arr true kV3 out_b)]⟩
theorem e68 (C:CallF) (a_0 a_1 a_2 b_0 b_1 b_2 many:Int):acallI tab C 68 [.p (.agg [.int .i64 a_0,.int .i64 a_1,.int .i64 a_2]),.p (.agg [.int .i64 b_0,.int .i64 b_1,.int .i64 b_2]),.p (.int .i64 many)] [] =
 L tab C 68 [] [.lp [1,1,0,1,0]] (S68_11010 many 0 0 0 a_0 a_1 a_2 b_0 b_1 b_2 []):=by kernel_rfl
theorem e68_11010 (C:CallF) (many':Int)(out_o out_l:Nat)(k' a_b0 a_b1 a_b2 b_b0 b_b1 b_b2:Int)(out_b:List PV):R tab C 68 [] [.lp [1,1,0,1,0]] (S68_11010 many' out_o out_l k' a_b0 a_b1 a_b2 b_b0 b_b1 b_b2 out_b) =
 bif (leI k' many') then
  (C 100 [.p (.agg [.int .i64 a_b0,.int .i64 a_b1,.int .i64 a_b2]),.p (.agg [.int .i64 b_b0,.int .i64 b_b1,.int .i64 b_b2]),.p (.int .i64 k'),.p (.int .i64 many')] []).bind fun r1 =>
  bif (leN (out_l+1) 2147483648) then L tab C 68 [] [.lp [1,1,0,1,0]] (S68_11010 many' 0 (out_l+1) (IntKind.i64.wrap (k'+(1:Int))) a_b0 a_b1 a_b2 b_b0 b_b1 b_b2 (((out_b.drop out_o).take out_l)++([.agg [.int .i64 (((r1.1.headD .undef).pv.cell 0).toInt),.int .i64 (((r1.1.headD .undef).pv.cell 1).toInt),.int .i64 (((r1.1.headD .undef).pv.cell 2).toInt)]]:List PV))) else none
 else
  some ([.fresh true kV3 ((out_b.drop out_o).take out_l)],[]):=by kernel_rfl
theorem e69 (C:CallF) (n_ r_:Int):acallI tab C 69 [.p (.int .i64 n_),.p (.int .i64 r_)] [] =
 bif (leI (IntKind.i64.wrap ((IntKind.i64.wrap (r_*r_))-r_)) n_) then
  some ([.p (.bool (leI n_ (IntKind.i64.wrap ((IntKind.i64.wrap (r_*r_))+r_))))],[])
 else
  some ([.p (.bool false)],[]):=by kernel_rfl
theorem e70 (C:CallF) (v_0 v_1 v_2:Int):acallI tab C 70 [.p (.agg [.int .i64 v_0,.int .i64 v_1,.int .i64 v_2])] [] =
 (C 50 [.p (.agg [.int .i64 v_0,.int .i64 v_1,.int .i64 v_2]),.p (.int .i64 1048576)] []).bind fun r1 =>
 some ([.p (.bool ((r1.1.headD .undef).pv.toBool))],[]):=by kernel_rfl
def S71_1010 (i' a_b0 a_b1 a_b2 b_b0 b_b1 b_b2:Int):St:=⟨.undef::.undef::(.ptr 2 0 0)::(.ptr 3 0 0)::.undef::(.p (.int .i64 i'))::List.replicate 18 .undef,[(2,.box [.p (.int .i64 a_b0),.p (.int .i64 a_b1),.p (.int .i64 a_b2)]),(3,.box [.p (.int .i64 b_b0),.p (.int .i64 b_b1),.p (.int .i64 b_b2)])]⟩
theorem e71 (C:CallF) (a_0 a_1 a_2 b_0 b_1 b_2:Int):acallI tab C 71 [.p (.agg [.int .i64 a_0,.int .i64 a_1,.int .i64 a_2]),.p (.agg [.int .i64 b_0,.int .i64 b_1,.int .i64 b_2])] [] =
 L tab C 71 [] [.lp [1,0,1,0]] (S71_1010 0 a_0 a_1 a_2 b_0 b_1 b_2):=by kernel_rfl
theorem e71_1010 (C:CallF) (i' a_b0 a_b1 a_b2 b_b0 b_b1 b_b2:Int):R tab C 71 [] [.lp [1,0,1,0]] (S71_1010 i' a_b0 a_b1 a_b2 b_b0 b_b1 b_b2) =
 bif (ltI i' (3:Int)) then
  (C 87 [.p (.agg [.int .i64 a_b0,.int .i64 a_b1,.int .i64 a_b2]),.p (.int .i64 i')] []).bind fun r1 =>
  (C 87 [.p (.agg [.int .i64 b_b0,.int .i64 b_b1,.int .i64 b_b2]),.p (.int .i64 i')] []).bind fun r2 =>
  bif (ltI ((r1.1.headD .undef).pv.toInt) ((r2.1.headD .undef).pv.toInt)) then
   some ([.p (.int .i64 (-1))],[])
  else
   (C 87 [.p (.agg [.int .i64 a_b0,.int .i64 a_b1,.int .i64 a_b2]),.p (.int .i64 i')] []).bind fun r3 =>
   (C 87 [.p (.agg [.int .i64 b_b0,.int .i64 b_b1,.int .i64 b_b2]),.p (.int .i64 i')] []).bind fun r4 =>
   bif (gtI ((r3.1.headD .undef).pv.toInt) ((r4.1.headD .undef).pv.toInt)) then
    some ([.p (.int .i64 1)],[])
   else
    L tab C 71 [] [.lp [1,0,1,0]] (S71_1010 (IntKind.i64.wrap (i'+(1:Int))) a_b0 a_b1 a_b2 b_b0 b_b1 b_b2)
 else
  some ([.p (.int .i64 0)],[]):=by kernel_rfl
theorem e73 (C:CallF) (kind:Int):acallI tab C 73 [.p (.int .i64 kind)] [] =
 bif (kind==(1:Int)) then
  some ([.p (.agg [.str ⟨#[100,111,116,115]⟩,.int .i64 1,.int .i64 200,.bool false,.bool false,.bool false]),.p (.bool true)],[])
 else
  bif (kind==(2:Int)) then
   some ([.p (.agg [.str ⟨#[108,105,110,101]⟩,.int .i64 2,.int .i64 200,.bool true,.bool false,.bool false]),.p (.bool true)],[])
  else
   bif (kind==(3:Int)) then
    some ([.p (.agg [.str ⟨#[108,111,111,112]⟩,.int .i64 3,.int .i64 200,.bool true,.bool false,.bool false]),.p (.bool true)],[])
   else
    bif (kind==(4:Int)) then
     some ([.p (.agg [.str ⟨#[114,105,110,103]⟩,.int .i64 1,.int .i64 1,.bool false,.bool true,.bool true]),.p (.bool true)],[])
    else
     bif (kind==(5:Int)) then
      some ([.p (.agg [.str ⟨#[115,112,104,101,114,101]⟩,.int .i64 1,.int .i64 1,.bool false,.bool true,.bool false]),.p (.bool true)],[])
     else
      some ([.p (.agg [.str ⟨#[]⟩,.int .i64 0,.int .i64 0,.bool false,.bool false,.bool false]),.p (.bool false)],[]):=by kernel_rfl
def S74_10 (t5':List PV)(t6' t7':Int)(b100000_b0_o b100000_b0_l:Nat)(b99999_b:List PV):St:=⟨.undef::(.ptr 100000 0 0)::.undef::.undef::.undef::(.p (.list false [.int .i64] t5'))::(.p (.int .i64 t6'))::(.p (.int .i64 t7'))::List.replicate 9 .undef,[(100000,.box [.slice 99999 1 b100000_b0_o b100000_b0_l]),(99999,.arr false [.str] b99999_b)]⟩
theorem e74 (C:CallF) (l:List PV)(v0_o v0_l:Nat)(v0_b:List PV):acallI tab C 74 [.p (.list false [.int .i64] l),.ptr 100000 0 0] [.box [.slice 99999 1 v0_o v0_l],.arr false [.str] v0_b] =
 L tab C 74 [.box [.slice 99999 1 v0_o v0_l],.arr false [.str] v0_b] [.lp [1,0]] (S74_10 l ((l.length:Nat):Int) 0 v0_o v0_l v0_b):=by kernel_rfl
theorem e74_10 (C:CallF) (v0_o v0_l:Nat)(v0_b t5':List PV)(t6' t7':Int)(b100000_b0_o b100000_b0_l:Nat)(b99999_b:List PV):R tab C 74 [.box [.slice 99999 1 v0_o v0_l],.arr false [.str] v0_b] [.lp [1,0]] (S74_10 t5' t6' t7' b100000_b0_o b100000_b0_l b99999_b) =
 bif (ltI t7' t6') then
  bif ((leI (0:Int) t7')&&(ltI t7' ((t5'.length:Nat):Int))) then(C 75 [.p (.int .i64 (((t5'.getD t7'.toNat .nil).cell 0).toInt))] []).bind fun r1 =>
  bif (leN (b100000_b0_l+1) 2147483648) then L tab C 74 [.box [.slice 99999 1 v0_o v0_l],.arr false [.str] v0_b] [.lp [1,0]] (S74_10 t5' t6' (IntKind.i64.wrap (t7'+(1:Int))) 0 (b100000_b0_l+1) (((b99999_b.drop b100000_b0_o).take b100000_b0_l)++([.str ((r1.1.headD .undef).pv.toStr)]:List PV))) else none else none
 else
  some ([],[.box [.slice 99999 1 b100000_b0_o b100000_b0_l],.arr false [.str] b99999_b]):=by kernel_rfl
theorem e80 (C:CallF) (v0:List PV):acallI tab C 80 [.ptr 100000 0 0] [.box [.p (.list false [.str] v0)]] =
 bif (((v0.length:Nat):Int)==(0:Int)) then
  some ([.p (.int .i64 0)],[.box [.p (.list false [.str] v0)]])
 else
  bif (ltI (0:Int) ((v0.length:Nat):Int)) then(C 81 [.p (.str (((v0.getD 0 .nil).cell 0).toStr))] []).bind fun r1 =>
  bif ((leI (1:Int) ((v0.length:Nat):Int))&&((leI ((v0.length:Nat):Int) ((v0.length:Nat):Int))&&(leI ((v0.length:Nat):Int) ((v0.length:Nat):Int)))) then some ([.p (.int .i64 ((r1.1.headD .undef).pv.toInt))],[.box [.p (.list false [.str] ((v0.drop 1).take ((((v0.length:Nat):Int)-(1:Int)).toNat)))]]) else none else none:=by kernel_rfl
theorem e84 (C:CallF) (v_0 v_1 v_2:Int):acallI tab C 84 [.p (.agg [.int .i64 v_0,.int .i64 v_1,.int .i64 v_2])] [] =
 (C 47 [.p (.agg [.int .i64 v_0,.int .i64 v_1,.int .i64 v_2])] []).bind fun r1 =>
 bif (!(r1.1.headD .undef).pv.toBool) then
  some ([.p (.agg [.int .i64 0,.int .i64 0,.int .i64 0]),.p (.int .i64 3)],[])
 else
  some ([.p (.agg [.int .i64 v_0,.int .i64 v_1,.int .i64 v_2]),.p (.int .i64 0)],[]):=by kernel_rfl
theorem e85a (C:CallF) (a_0 a_1 a_2 b_0 b_1 b_2:Int):acallI tab C 85 [.p (.agg [.int .i64 a_0,.int .i64 a_1,.int .i64 a_2]),.p (.agg [.int .i64 b_0,.int .i64 b_1,.int .i64 b_2]),.p (.fn 86 [])] [] =
 (C 86 [.p (.int .i64 a_0),.p (.int .i64 b_0)] []).bind fun r1 =>
 (C 86 [.p (.int .i64 a_1),.p (.int .i64 b_1)] []).bind fun r2 =>
 (C 86 [.p (.int .i64 a_2),.p (.int .i64 b_2)] []).bind fun r3 =>
 some ([.p (.agg [.int .i64 ((r1.1.headD .undef).pv.toInt),.int .i64 ((r2.1.headD .undef).pv.toInt),.int .i64 ((r3.1.headD .undef).pv.toInt)])],[]):=by kernel_rfl
theorem e85b (C:CallF) (a_0 a_1 a_2 b_0 b_1 b_2 num_ den_:Int):acallI tab C 85 [.p (.agg [.int .i64 a_0,.int .i64 a_1,.int .i64 a_2]),.p (.agg [.int .i64 b_0,.int .i64 b_1,.int .i64 b_2]),.p (.fn 109 [.ref [.int .i64 num_],.ref [.int .i64 den_]])] [] =
 (C 109 [.p (.int .i64 a_0),.p (.int .i64 b_0),.p (.ref [.int .i64 num_]),.p (.ref [.int .i64 den_])] []).bind fun r1 =>
 (C 109 [.p (.int .i64 a_1),.p (.int .i64 b_1),.p (.ref [.int .i64 num_]),.p (.ref [.int .i64 den_])] []).bind fun r2 =>
 (C 109 [.p (.int .i64 a_2),.p (.int .i64 b_2),.p (.ref [.int .i64 num_]),.p (.ref [.int .i64 den_])] []).bind fun r3 =>
 some ([.p (.agg [.int .i64 ((r1.1.headD .undef).pv.toInt),.int .i64 ((r2.1.headD .undef).pv.toInt),.int .i64 ((r3.1.headD .undef).pv.toInt)])],[]):=by kernel_rfl
theorem e86 (C:CallF) (x y:Int):acallI tab C 86 [.p (.int .i64 x),.p (.int .i64 y)] [] =
 some ([.p (.int .i64 (IntKind.i64.wrap (x+y)))],[]):=by kernel_rfl
theorem e87 (C:CallF) (v_0 v_1 v_2 i:Int):acallI tab C 87 [.p (.agg [.int .i64 v_0,.int .i64 v_1,.int .i64 v_2]),.p (.int .i64 i)] [] =
 bif (i==(0:Int)) then
  some ([.p (.int .i64 v_0)],[])
 else
  bif (i==(1:Int)) then
   some ([.p (.int .i64 v_1)],[])
  else
   some ([.p (.int .i64 v_2)],[]):=by kernel_rfl
def S88_1010 (s':List PV)(t7' t8':Int):St:=⟨(.p (.list true kSh s'))::(.p (.fn 53 []))::.undef::.undef::.undef::.undef::.undef::(.p (.int .i64 t7'))::(.p (.int .i64 t8'))::List.replicate 10 .undef,[]⟩
theorem e88 (C:CallF) (s:List PV):acallI tab C 88 [.p (.list true kSh s),.p (.fn 53 [])] [] =
 L tab C 88 [] [.lp [1,0,1,0]] (S88_1010 s ((s.length:Nat):Int) 0):=by kernel_rfl
theorem e88_1010 (C:CallF) (s':List PV)(t7' t8':Int):R tab C 88 [] [.lp [1,0,1,0]] (S88_1010 s' t7' t8') =
 bif (ltI t8' t7') then
  bif ((leI (0:Int) t8')&&(ltI t8' ((s'.length:Nat):Int))) then(C 53 [.p (.agg [.int .i64 (((s'.getD t8'.toNat .nil).cell 0).toInt),.list true kV3 (((s'.getD t8'.toNat .nil).cell 1).toList),.int .i64 (((s'.getD t8'.toNat .nil).cell 2).toInt),.int .i64 (((s'.getD t8'.toNat .nil).cell 3).toInt),.int .i64 (((s'.getD t8'.toNat .nil).cell 4).toInt),.int .i64 (((s'.getD t8'.toNat .nil).cell 5).toInt)])] []).bind fun r1 =>
  bif (r1.1.headD .undef).pv.toBool then
   some ([.p (.int .i64 t8')],[])
  else
   L tab C 88 [] [.lp [1,0,1,0]] (S88_1010 s' t7' (IntKind.i64.wrap (t8'+(1:Int)))) else none
 else
  some ([.p (.int .i64 (-1))],[]):=by kernel_rfl
theorem e89 (C:CallF) (has:Bool)(n_ most:Int):acallI tab C 89 [.p (.bool has),.p (.int .i64 n_),.p (.int .i64 most)] [] =
 bif has then
  bif (geI n_ (1:Int)) then
   some ([.p (.bool (leI n_ most))],[])
  else
   some ([.p (.bool false)],[])
 else
  some ([.p (.bool (n_==(0:Int)))],[]):=by kernel_rfl
theorem e90v (C:CallF) (s:List PV):acallI tab C 90 [.p (.list true kV3 s),.p (.fn 91 [])] [] =
 (C 108 [.p (.list true kV3 s),.p (.fn 91 [])] []).bind fun r1 =>
 some ([.p (.bool (geI ((r1.1.headD .undef).pv.toInt) (0:Int)))],[]):=by kernel_rfl
theorem e91 (C:CallF) (v_0 v_1 v_2:Int):acallI tab C 91 [.p (.agg [.int .i64 v_0,.int .i64 v_1,.int .i64 v_2])] [] =
 (C 31 [.p (.agg [.int .i64 v_0,.int .i64 v_1,.int .i64 v_2])] []).bind fun r1 =>
 some ([.p (.bool (!(r1.1.headD .undef).pv.toBool))],[]):=by kernel_rfl
def S92_10 (t5':List PV)(t6' t7':Int)(b100000_b:List PV):St:=⟨(.yld)::.undef::.undef::.undef::.undef::(.p (.list true kV3 t5'))::(.p (.int .i64 t6'))::(.p (.int .i64 t7'))::List.replicate 8 .undef,[(100000,.log true b100000_b)]⟩
theorem e92 (C:CallF) (c0:List PV):acallI tab C 92 [.yld,.p (.ref [.list true kV3 c0])] [.log true []] =
 L tab C 92 [.log true []] [.lp [1,0]] (S92_10 c0 ((c0.length:Nat):Int) 0 []):=by kernel_rfl
theorem e92_10 (C:CallF) (t5':List PV)(t6' t7':Int)(b100000_b:List PV):R tab C 92 [.log true []] [.lp [1,0]] (S92_10 t5' t6' t7' b100000_b) =
 bif (ltI t7' t6') then
  bif ((leI (0:Int) t7')&&(ltI t7' ((t5'.length:Nat):Int))) then fork (some ([],[.log false (b100000_b++([.agg [.agg [.int .i64 (((t5'.getD t7'.toNat .nil).cell 0).toInt),.int .i64 (((t5'.getD t7'.toNat .nil).cell 1).toInt),.int .i64 (((t5'.getD t7'.toNat .nil).cell 2).toInt)]]]:List PV))])) <|
  L tab C 92 [.log true []] [.lp [1,0]] (S92_10 t5' t6' (IntKind.i64.wrap (t7'+(1:Int))) (b100000_b++([.agg [.agg [.int .i64 (((t5'.getD t7'.toNat .nil).cell 0).toInt),.int .i64 (((t5'.getD t7'.toNat .nil).cell 1).toInt),.int .i64 (((t5'.getD t7'.toNat .nil).cell 2).toInt)]]]:List PV))) else none
 else
  some ([],[.log true b100000_b]):=by kernel_rfl
def S93_10 (t1_r0:Int)(t1_r1:List PV)(t1_r2 t1_r3 t1_r4 t1_r5:Int)(t10':List PV)(t11' t12':Int)(b100000_b:List PV):St:=⟨(.yld)::(.p (.ref [.int .i64 t1_r0,.list true kV3 t1_r1,.int .i64 t1_r2,.int .i64 t1_r3,.int .i64 t1_r4,.int .i64 t1_r5]))::.undef::.undef::.undef::.undef::.undef::.undef::.undef::.undef::(.p (.list true kV3 t10'))::(.p (.int .i64 t11'))::(.p (.int .i64 t12'))::List.replicate 46 .undef,[(100000,.log true b100000_b)]⟩
def S93_10_110011110 (t1_r0:Int)(t1_r1:List PV)(t1_r2 t1_r3 t1_r4 t1_r5:Int)(t10':List PV)(t11' t12' t40' t41':Int)(b100000_b:List PV)(a_b0 a_b1 a_b2 b_b0 b_b1 b_b2:Int):St:=⟨(.yld)::(.p (.ref [.int .i64 t1_r0,.list true kV3 t1_r1,.int .i64 t1_r2,.int .i64 t1_r3,.int .i64 t1_r4,.int .i64 t1_r5]))::.undef::.undef::(.ptr 4 0 0)::(.ptr 5 0 0)::.undef::.undef::.undef::.undef::(.p (.list true kV3 t10'))::(.p (.int .i64 t11'))::(.p (.int .i64 t12'))::.undef::.undef::.undef::.undef::.undef::.undef::.undef::.undef::.undef::.undef::.undef::.undef::.undef::.undef::.undef::.undef::.undef::.undef::.undef::.undef::.undef::.undef::.undef::.undef::.undef::.undef::.undef::(.p (.int .i64 t40'))::(.p (.int .i64 t41'))::List.replicate 17 .undef,[(100000,.log true b100000_b),(4,.box [.p (.int .i64 a_b0),.p (.int .i64 a_b1),.p (.int .i64 a_b2)]),(5,.box [.p (.int .i64 b_b0),.p (.int .i64 b_b1),.p (.int .i64 b_b2)])]⟩
def S93_10_110011110_s1 (t1_r0:Int)(t1_r1:List PV)(t1_r2 t1_r3 t1_r4 t1_r5 a_r0 a_r1 a_r2 b_r0 b_r1 b_r2:Int)(t10':List PV)(t11' t12' t40' t41':Int)(b100000_b:List PV):St:=⟨(.yld)::(.p (.ref [.int .i64 t1_r0,.list true kV3 t1_r1,.int .i64 t1_r2,.int .i64 t1_r3,.int .i64 t1_r4,.int .i64 t1_r5]))::.undef::.undef::(.p (.ref [.int .i64 a_r0,.int .i64 a_r1,.int .i64 a_r2]))::(.p (.ref [.int .i64 b_r0,.int .i64 b_r1,.int .i64 b_r2]))::.undef::.undef::.undef::.undef::(.p (.list true kV3 t10'))::(.p (.int .i64 t11'))::(.p (.int .i64 t12'))::.undef::.undef::.undef::.undef::.undef::.undef::.undef::.undef::.undef::.undef::.undef::.undef::.undef::.undef::.undef::.undef::.undef::.undef::.undef::.undef::.undef::.undef::.undef::.undef::.undef::.undef::.undef::(.p (.int .i64 t40'))::(.p (.int .i64 t41'))::List.replicate 17 .undef,[(100000,.log true b100000_b)]⟩
theorem e93 (C:CallF) (c0_0:Int)(c0_1:List PV)(c0_2 c0_3 c0_4 c0_5:Int):acallI tab C 93 [.yld,.p (.ref [.int .i64 c0_0,.list true kV3 c0_1,.int .i64 c0_2,.int .i64 c0_3,.int .i64 c0_4,.int .i64 c0_5])] [.log true []] =
 L tab C 93 [.log true []] [.lp [1,0]] (S93_10 c0_0 c0_1 c0_2 c0_3 c0_4 c0_5 c0_1 ((c0_1.length:Nat):Int) 0 []):=by kernel_rfl
theorem e93_10 (C:CallF) (t1_r0:Int)(t1_r1:List PV)(t1_r2 t1_r3 t1_r4 t1_r5:Int)(t10':List PV)(t11' t12':Int)(b100000_b:List PV):R tab C 93 [.log true []] [.lp [1,0]] (S93_10 t1_r0 t1_r1 t1_r2 t1_r3 t1_r4 t1_r5 t10' t11' t12' b100000_b) =
 bif (ltI t12' t11') then
  bif ((leI (0:Int) t12')&&(ltI t12' ((t10'.length:Nat):Int))) then bif (t1_r0==(2:Int)) then
   bif ((IntKind.i64.wrap (t12'+(1:Int)))==((t1_r1.length:Nat):Int)) then
    some ([],[.log true b100000_b])
   else
    bif (!(eqI ((t1_r1.length:Nat):Int) (0:Int))) then bif ((leI (0:Int) ((IntKind.i64.wrap (t12'+(1:Int))).tmod ((t1_r1.length:Nat):Int)))&&(ltI ((IntKind.i64.wrap (t12'+(1:Int))).tmod ((t1_r1.length:Nat):Int)) ((t1_r1.length:Nat):Int))) then L tab C 93 [.log true []] [.lp [1,0],.lp [1,1,0,0,1,1,1,1,0]] (S93_10_110011110 t1_r0 t1_r1 t1_r2 t1_r3 t1_r4 t1_r5 t10' t11' t12' (IntKind.i64.wrap (t1_r2+(1:Int))) 0 b100000_b (((t10'.getD t12'.toNat .nil).cell 0).toInt) (((t10'.getD t12'.toNat .nil).cell 1).toInt) (((t10'.getD t12'.toNat .nil).cell 2).toInt) (((t1_r1.getD (((IntKind.i64.wrap (t12'+(1:Int))).tmod ((t1_r1.length:Nat):Int)).toNat) .nil).cell 0).toInt) (((t1_r1.getD (((IntKind.i64.wrap (t12'+(1:Int))).tmod ((t1_r1.length:Nat):Int)).toNat) .nil).cell 1).toInt) (((t1_r1.getD (((IntKind.i64.wrap (t12'+(1:Int))).tmod ((t1_r1.length:Nat):Int)).toNat) .nil).cell 2).toInt)) else none else none
  else
   bif (!(eqI ((t1_r1.length:Nat):Int) (0:Int))) then bif ((leI (0:Int) ((IntKind.i64.wrap (t12'+(1:Int))).tmod ((t1_r1.length:Nat):Int)))&&(ltI ((IntKind.i64.wrap (t12'+(1:Int))).tmod ((t1_r1.length:Nat):Int)) ((t1_r1.length:Nat):Int))) then L tab C 93 [.log true []] [.lp [1,0],.lp [1,1,0,0,1,1,1,1,0]] (S93_10_110011110 t1_r0 t1_r1 t1_r2 t1_r3 t1_r4 t1_r5 t10' t11' t12' (IntKind.i64.wrap (t1_r2+(1:Int))) 0 b100000_b (((t10'.getD t12'.toNat .nil).cell 0).toInt) (((t10'.getD t12'.toNat .nil).cell 1).toInt) (((t10'.getD t12'.toNat .nil).cell 2).toInt) (((t1_r1.getD (((IntKind.i64.wrap (t12'+(1:Int))).tmod ((t1_r1.length:Nat):Int)).toNat) .nil).cell 0).toInt) (((t1_r1.getD (((IntKind.i64.wrap (t12'+(1:Int))).tmod ((t1_r1.length:Nat):Int)).toNat) .nil).cell 1).toInt) (((t1_r1.getD (((IntKind.i64.wrap (t12'+(1:Int))).tmod ((t1_r1.length:Nat):Int)).toNat) .nil).cell 2).toInt)) else none else none else none
 else
  some ([],[.log true b100000_b]):=by kernel_rfl
theorem e93_10_110011110 (C:CallF) (t1_r0:Int)(t1_r1:List PV)(t1_r2 t1_r3 t1_r4 t1_r5:Int)(t10':List PV)(t11' t12' t40' t41':Int)(b100000_b:List PV)(a_b0 a_b1 a_b2 b_b0 b_b1 b_b2:Int):R tab C 93 [.log true []] [.lp [1,0],.lp [1,1,0,0,1,1,1,1,0]] (S93_10_110011110 t1_r0 t1_r1 t1_r2 t1_r3 t1_r4 t1_r5 t10' t11' t12' t40' t41' b100000_b a_b0 a_b1 a_b2 b_b0 b_b1 b_b2) =
 bif (ltI t41' t40') then
  (C 94 [.p (.agg [.int .i64 a_b0,.int .i64 a_b1,.int .i64 a_b2]),.p (.agg [.int .i64 b_b0,.int .i64 b_b1,.int .i64 b_b2]),.p (.int .i64 t41'),.p (.int .i64 t1_r2)] []).bind fun r1 =>
  fork (some ([],[.log false (b100000_b++([.agg [.agg [.int .i64 (((r1.1.headD .undef).pv.cell 0).toInt),.int .i64 (((r1.1.headD .undef).pv.cell 1).toInt),.int .i64 (((r1.1.headD .undef).pv.cell 2).toInt)]]]:List PV))])) <|
  L tab C 93 [.log true []] [.lp [1,0],.lp [1,1,0,0,1,1,1,1,0]] (S93_10_110011110_s1 t1_r0 t1_r1 t1_r2 t1_r3 t1_r4 t1_r5 a_b0 a_b1 a_b2 b_b0 b_b1 b_b2 t10' t11' t12' t40' (IntKind.i64.wrap (t41'+(1:Int))) (b100000_b++([.agg [.agg [.int .i64 (((r1.1.headD .undef).pv.cell 0).toInt),.int .i64 (((r1.1.headD .undef).pv.cell 1).toInt),.int .i64 (((r1.1.headD .undef).pv.cell 2).toInt)]]]:List PV)))
 else
  L tab C 93 [.log true []] [.lp [1,0]] (S93_10 t1_r0 t1_r1 t1_r2 t1_r3 t1_r4 t1_r5 t10' t11' (IntKind.i64.wrap (t12'+(1:Int))) b100000_b):=by kernel_rfl
theorem e93_10_110011110_s1 (C:CallF) (t1_r0:Int)(t1_r1:List PV)(t1_r2 t1_r3 t1_r4 t1_r5 a_r0 a_r1 a_r2 b_r0 b_r1 b_r2:Int)(t10':List PV)(t11' t12' t40' t41':Int)(b100000_b:List PV):R tab C 93 [.log true []] [.lp [1,0],.lp [1,1,0,0,1,1,1,1,0]] (S93_10_110011110_s1 t1_r0 t1_r1 t1_r2 t1_r3 t1_r4 t1_r5 a_r0 a_r1 a_r2 b_r0 b_r1 b_r2 t10' t11' t12' t40' t41' b100000_b) =
 bif (ltI t41' t40') then
  (C 94 [.p (.agg [.int .i64 a_r0,.int .i64 a_r1,.int .i64 a_r2]),.p (.agg [.int .i64 b_r0,.int .i64 b_r1,.int .i64 b_r2]),.p (.int .i64 t41'),.p (.int .i64 t1_r2)] []).bind fun r1 =>
  fork (some ([],[.log false (b100000_b++([.agg [.agg [.int .i64 (((r1.1.headD .undef).pv.cell 0).toInt),.int .i64 (((r1.1.headD .undef).pv.cell 1).toInt),.int .i64 (((r1.1.headD .undef).pv.cell 2).toInt)]]]:List PV))])) <|
  L tab C 93 [.log true []] [.lp [1,0],.lp [1,1,0,0,1,1,1,1,0]] (S93_10_110011110_s1 t1_r0 t1_r1 t1_r2 t1_r3 t1_r4 t1_r5 a_r0 a_r1 a_r2 b_r0 b_r1 b_r2 t10' t11' t12' t40' (IntKind.i64.wrap (t41'+(1:Int))) (b100000_b++([.agg [.agg [.int .i64 (((r1.1.headD .undef).pv.cell 0).toInt),.int .i64 (((r1.1.headD .undef).pv.cell 1).toInt),.int .i64 (((r1.1.headD .undef).pv.cell 2).toInt)]]]:List PV)))
 else
  L tab C 93 [.log true []] [.lp [1,0]] (S93_10 t1_r0 t1_r1 t1_r2 t1_r3 t1_r4 t1_r5 t10' t11' (IntKind.i64.wrap (t12'+(1:Int))) b100000_b):=by kernel_rfl
theorem e94 (C:CallF) (a_0 a_1 a_2 b_0 b_1 b_2 num den:Int):acallI tab C 94 [.p (.agg [.int .i64 a_0,.int .i64 a_1,.int .i64 a_2]),.p (.agg [.int .i64 b_0,.int .i64 b_1,.int .i64 b_2]),.p (.int .i64 num),.p (.int .i64 den)] [] =
 (C 47 [.p (.agg [.int .i64 a_0,.int .i64 a_1,.int .i64 a_2])] []).bind fun r1 =>
 bif (!(r1.1.headD .undef).pv.toBool) then
  some ([.p (.agg [.int .i64 0,.int .i64 0,.int .i64 0]),.p (.int .i64 2)],[])
 else
  (C 47 [.p (.agg [.int .i64 b_0,.int .i64 b_1,.int .i64 b_2])] []).bind fun r2 =>
  bif (!(r2.1.headD .undef).pv.toBool) then
   some ([.p (.agg [.int .i64 0,.int .i64 0,.int .i64 0]),.p (.int .i64 2)],[])
  else
   bif (ltI den (1:Int)) then
    some ([.p (.agg [.int .i64 0,.int .i64 0,.int .i64 0]),.p (.int .i64 2)],[])
   else
    bif (gtI den (4294967296:Int)) then
     some ([.p (.agg [.int .i64 0,.int .i64 0,.int .i64 0]),.p (.int .i64 2)],[])
    else
     bif (ltI num (0:Int)) then
      some ([.p (.agg [.int .i64 0,.int .i64 0,.int .i64 0]),.p (.int .i64 2)],[])
     else
      bif (gtI num den) then
       some ([.p (.agg [.int .i64 0,.int .i64 0,.int .i64 0]),.p (.int .i64 2)],[])
      else
       (C 85 [.p (.agg [.int .i64 a_0,.int .i64 a_1,.int .i64 a_2]),.p (.agg [.int .i64 b_0,.int .i64 b_1,.int .i64 b_2]),.p (.fn 109 [.ref [.int .i64 num],.ref [.int .i64 den]])] []).bind fun r3 =>
       some ([.p (.agg [.int .i64 (((r3.1.headD .undef).pv.cell 0).toInt),.int .i64 (((r3.1.headD .undef).pv.cell 1).toInt),.int .i64 (((r3.1.headD .undef).pv.cell 2).toInt)]),.p (.int .i64 0)],[]):=by kernel_rfl
def S95_11110 (t1_r0:Int)(t1_r1:List PV)(t1_r2 t1_r3 t1_r4 t1_r5 r_' depth' i':Int)(b100000_b:List PV)(c_b0 c_b1 c_b2:Int):St:=⟨(.yld)::(.p (.ref [.int .i64 t1_r0,.list true kV3 t1_r1,.int .i64 t1_r2,.int .i64 t1_r3,.int .i64 t1_r4,.int .i64 t1_r5]))::.undef::(.p (.int .i64 r_'))::(.ptr 4 0 0)::(.p (.int .i64 depth'))::(.p (.int .i64 i'))::List.replicate 114 .undef,[(100000,.log true b100000_b),(4,.box [.p (.int .i64 c_b0),.p (.int .i64 c_b1),.p (.int .i64 c_b2)])]⟩
def S95_11110_10010 (t1_r0:Int)(t1_r1:List PV)(t1_r2 t1_r3 t1_r4 t1_r5 r_' depth' i' j':Int)(b100000_b:List PV)(c_b0 c_b1 c_b2:Int):St:=⟨(.yld)::(.p (.ref [.int .i64 t1_r0,.list true kV3 t1_r1,.int .i64 t1_r2,.int .i64 t1_r3,.int .i64 t1_r4,.int .i64 t1_r5]))::.undef::(.p (.int .i64 r_'))::(.ptr 4 0 0)::(.p (.int .i64 depth'))::(.p (.int .i64 i'))::(.p (.int .i64 j'))::List.replicate 113 .undef,[(100000,.log true b100000_b),(4,.box [.p (.int .i64 c_b0),.p (.int .i64 c_b1),.p (.int .i64 c_b2)])]⟩
def S95_11110_10010_10010 (t1_r0:Int)(t1_r1:List PV)(t1_r2 t1_r3 t1_r4 t1_r5 r_' depth' i' j' k':Int)(b100000_b:List PV)(c_b0 c_b1 c_b2:Int):St:=⟨(.yld)::(.p (.ref [.int .i64 t1_r0,.list true kV3 t1_r1,.int .i64 t1_r2,.int .i64 t1_r3,.int .i64 t1_r4,.int .i64 t1_r5]))::.undef::(.p (.int .i64 r_'))::(.ptr 4 0 0)::(.p (.int .i64 depth'))::(.p (.int .i64 i'))::(.p (.int .i64 j'))::(.p (.int .i64 k'))::List.replicate 112 .undef,[(100000,.log true b100000_b),(4,.box [.p (.int .i64 c_b0),.p (.int .i64 c_b1),.p (.int .i64 c_b2)])]⟩
def S95_11110_10010_10010_s1 (t1_r0:Int)(t1_r1:List PV)(t1_r2 t1_r3 t1_r4 t1_r5 r_' c_r0 c_r1 c_r2 depth' i' j' k':Int)(b100000_b:List PV):St:=⟨(.yld)::(.p (.ref [.int .i64 t1_r0,.list true kV3 t1_r1,.int .i64 t1_r2,.int .i64 t1_r3,.int .i64 t1_r4,.int .i64 t1_r5]))::.undef::(.p (.int .i64 r_'))::(.p (.ref [.int .i64 c_r0,.int .i64 c_r1,.int .i64 c_r2]))::(.p (.int .i64 depth'))::(.p (.int .i64 i'))::(.p (.int .i64 j'))::(.p (.int .i64 k'))::List.replicate 112 .undef,[(100000,.log true b100000_b)]⟩
def S95_11110_10010_s1 (t1_r0:Int)(t1_r1:List PV)(t1_r2 t1_r3 t1_r4 t1_r5 r_' c_r0 c_r1 c_r2 depth' i' j':Int)(b100000_b:List PV):St:=⟨(.yld)::(.p (.ref [.int .i64 t1_r0,.list true kV3 t1_r1,.int .i64 t1_r2,.int .i64 t1_r3,.int .i64 t1_r4,.int .i64 t1_r5]))::.undef::(.p (.int .i64 r_'))::(.p (.ref [.int .i64 c_r0,.int .i64 c_r1,.int .i64 c_r2]))::(.p (.int .i64 depth'))::(.p (.int .i64 i'))::(.p (.int .i64 j'))::List.replicate 113 .undef,[(100000,.log true b100000_b)]⟩
def S95_11110_s1 (t1_r0:Int)(t1_r1:List PV)(t1_r2 t1_r3 t1_r4 t1_r5 r_' c_r0 c_r1 c_r2 depth' i':Int)(b100000_b:List PV):St:=⟨(.yld)::(.p (.ref [.int .i64 t1_r0,.list true kV3 t1_r1,.int .i64 t1_r2,.int .i64 t1_r3,.int .i64 t1_r4,.int .i64 t1_r5]))::.undef::(.p (.int .i64 r_'))::(.p (.ref [.int .i64 c_r0,.int .i64 c_r1,.int .i64 c_r2]))::(.p (.int .i64 depth'))::(.p (.int .i64 i'))::List.replicate 114 .undef,[(100000,.log true b100000_b)]⟩
theorem e95 (C:CallF) (c0_0:Int)(c0_1:List PV)(c0_2 c0_3 c0_4 c0_5:Int):acallI tab C 95 [.yld,.p (.ref [.int .i64 c0_0,.list true kV3 c0_1,.int .i64 c0_2,.int .i64 c0_3,.int .i64 c0_4,.int .i64 c0_5])] [.log true []] =
 bif (ltI (0:Int) ((c0_1.length:Nat):Int)) then bif (c0_0==(5:Int)) then
  L tab C 95 [.log true []] [.lp [1,1,1,1,0]] (S95_11110 c0_0 c0_1 c0_2 c0_3 c0_4 c0_5 c0_3 (IntKind.i64.wrap (c0_3+(1:Int))) (IntKind.i64.wrap ((IntKind.i64.wrap (0-c0_3))-(1:Int))) [] (((c0_1.getD 0 .nil).cell 0).toInt) (((c0_1.getD 0 .nil).cell 1).toInt) (((c0_1.getD 0 .nil).cell 2).toInt))
 else
  L tab C 95 [.log true []] [.lp [1,1,1,1,0]] (S95_11110 c0_0 c0_1 c0_2 c0_3 c0_4 c0_5 c0_3 0 (IntKind.i64.wrap ((IntKind.i64.wrap (0-c0_3))-(1:Int))) [] (((c0_1.getD 0 .nil).cell 0).toInt) (((c0_1.getD 0 .nil).cell 1).toInt) (((c0_1.getD 0 .nil).cell 2).toInt)) else none:=by kernel_rfl
theorem e95_11110 (C:CallF) (t1_r0:Int)(t1_r1:List PV)(t1_r2 t1_r3 t1_r4 t1_r5 r_' depth' i':Int)(b100000_b:List PV)(c_b0 c_b1 c_b2:Int):R tab C 95 [.log true []] [.lp [1,1,1,1,0]] (S95_11110 t1_r0 t1_r1 t1_r2 t1_r3 t1_r4 t1_r5 r_' depth' i' b100000_b c_b0 c_b1 c_b2) =
 bif (leI i' (IntKind.i64.wrap (r_'+(1:Int)))) then
  L tab C 95 [.log true []] [.lp [1,1,1,1,0],.lp [1,0,0,1,0]] (S95_11110_10010 t1_r0 t1_r1 t1_r2 t1_r3 t1_r4 t1_r5 r_' depth' i' (IntKind.i64.wrap ((IntKind.i64.wrap (0-r_'))-(1:Int))) b100000_b c_b0 c_b1 c_b2)
 else
  some ([],[.log true b100000_b]):=by kernel_rfl
theorem e95_11110_10010 (C:CallF) (t1_r0:Int)(t1_r1:List PV)(t1_r2 t1_r3 t1_r4 t1_r5 r_' depth' i' j':Int)(b100000_b:List PV)(c_b0 c_b1 c_b2:Int):R tab C 95 [.log true []] [.lp [1,1,1,1,0],.lp [1,0,0,1,0]] (S95_11110_10010 t1_r0 t1_r1 t1_r2 t1_r3 t1_r4 t1_r5 r_' depth' i' j' b100000_b c_b0 c_b1 c_b2) =
 bif (leI j' (IntKind.i64.wrap (r_'+(1:Int)))) then
  L tab C 95 [.log true []] [.lp [1,1,1,1,0],.lp [1,0,0,1,0],.lp [1,0,0,1,0]] (S95_11110_10010_10010 t1_r0 t1_r1 t1_r2 t1_r3 t1_r4 t1_r5 r_' depth' i' j' (IntKind.i64.wrap (0-depth')) b100000_b c_b0 c_b1 c_b2)
 else
  L tab C 95 [.log true []] [.lp [1,1,1,1,0]] (S95_11110 t1_r0 t1_r1 t1_r2 t1_r3 t1_r4 t1_r5 r_' depth' (IntKind.i64.wrap (i'+(1:Int))) b100000_b c_b0 c_b1 c_b2):=by kernel_rfl
theorem e95_11110_10010_10010 (C:CallF) (t1_r0:Int)(t1_r1:List PV)(t1_r2 t1_r3 t1_r4 t1_r5 r_' depth' i' j' k':Int)(b100000_b:List PV)(c_b0 c_b1 c_b2:Int):R tab C 95 [.log true []] [.lp [1,1,1,1,0],.lp [1,0,0,1,0],.lp [1,0,0,1,0]] (S95_11110_10010_10010 t1_r0 t1_r1 t1_r2 t1_r3 t1_r4 t1_r5 r_' depth' i' j' k' b100000_b c_b0 c_b1 c_b2) =
 bif (leI k' depth') then
  bif (ltI (IntKind.i64.wrap ((IntKind.i64.wrap ((IntKind.i64.wrap (i'*i'))+(IntKind.i64.wrap (j'*j'))))+(IntKind.i64.wrap (k'*k')))) (IntKind.i64.wrap ((IntKind.i64.wrap (r_'*r_'))-r_'))) then
   L tab C 95 [.log true []] [.lp [1,1,1,1,0],.lp [1,0,0,1,0],.lp [1,0,0,1,0]] (S95_11110_10010_10010 t1_r0 t1_r1 t1_r2 t1_r3 t1_r4 t1_r5 r_' depth' i' j' (IntKind.i64.wrap (k'+(1:Int))) b100000_b c_b0 c_b1 c_b2)
  else
   bif (gtI (IntKind.i64.wrap ((IntKind.i64.wrap ((IntKind.i64.wrap (i'*i'))+(IntKind.i64.wrap (j'*j'))))+(IntKind.i64.wrap (k'*k')))) (IntKind.i64.wrap ((IntKind.i64.wrap (r_'*r_'))+r_'))) then
    L tab C 95 [.log true []] [.lp [1,1,1,1,0],.lp [1,0,0,1,0],.lp [1,0,0,1,0]] (S95_11110_10010_10010 t1_r0 t1_r1 t1_r2 t1_r3 t1_r4 t1_r5 r_' depth' i' j' (IntKind.i64.wrap (k'+(1:Int))) b100000_b c_b0 c_b1 c_b2)
   else
    bif (t1_r5==(1:Int)) then
     fork (some ([],[.log false (b100000_b++([.agg [.agg [.int .i64 (IntKind.i64.wrap (c_b0+(IntKind.i64.wrap (i'*t1_r4)))),.int .i64 (IntKind.i64.wrap (c_b1+(0:Int))),.int .i64 (IntKind.i64.wrap (c_b2+(IntKind.i64.wrap (j'*t1_r4))))]]]:List PV))])) <|
     L tab C 95 [.log true []] [.lp [1,1,1,1,0],.lp [1,0,0,1,0],.lp [1,0,0,1,0]] (S95_11110_10010_10010_s1 t1_r0 t1_r1 t1_r2 t1_r3 t1_r4 t1_r5 r_' c_b0 c_b1 c_b2 depth' i' j' (IntKind.i64.wrap (k'+(1:Int))) (b100000_b++([.agg [.agg [.int .i64 (IntKind.i64.wrap (c_b0+(IntKind.i64.wrap (i'*t1_r4)))),.int .i64 (IntKind.i64.wrap (c_b1+(0:Int))),.int .i64 (IntKind.i64.wrap (c_b2+(IntKind.i64.wrap (j'*t1_r4))))]]]:List PV)))
    else
     bif (t1_r5==(2:Int)) then
      fork (some ([],[.log false (b100000_b++([.agg [.agg [.int .i64 (IntKind.i64.wrap (c_b0+(0:Int))),.int .i64 (IntKind.i64.wrap (c_b1+(IntKind.i64.wrap (i'*t1_r4)))),.int .i64 (IntKind.i64.wrap (c_b2+(IntKind.i64.wrap (j'*t1_r4))))]]]:List PV))])) <|
      L tab C 95 [.log true []] [.lp [1,1,1,1,0],.lp [1,0,0,1,0],.lp [1,0,0,1,0]] (S95_11110_10010_10010_s1 t1_r0 t1_r1 t1_r2 t1_r3 t1_r4 t1_r5 r_' c_b0 c_b1 c_b2 depth' i' j' (IntKind.i64.wrap (k'+(1:Int))) (b100000_b++([.agg [.agg [.int .i64 (IntKind.i64.wrap (c_b0+(0:Int))),.int .i64 (IntKind.i64.wrap (c_b1+(IntKind.i64.wrap (i'*t1_r4)))),.int .i64 (IntKind.i64.wrap (c_b2+(IntKind.i64.wrap (j'*t1_r4))))]]]:List PV)))
     else
      fork (some ([],[.log false (b100000_b++([.agg [.agg [.int .i64 (IntKind.i64.wrap (c_b0+(IntKind.i64.wrap (i'*t1_r4)))),.int .i64 (IntKind.i64.wrap (c_b1+(IntKind.i64.wrap (j'*t1_r4)))),.int .i64 (IntKind.i64.wrap (c_b2+(IntKind.i64.wrap (k'*t1_r4))))]]]:List PV))])) <|
      L tab C 95 [.log true []] [.lp [1,1,1,1,0],.lp [1,0,0,1,0],.lp [1,0,0,1,0]] (S95_11110_10010_10010_s1 t1_r0 t1_r1 t1_r2 t1_r3 t1_r4 t1_r5 r_' c_b0 c_b1 c_b2 depth' i' j' (IntKind.i64.wrap (k'+(1:Int))) (b100000_b++([.agg [.agg [.int .i64 (IntKind.i64.wrap (c_b0+(IntKind.i64.wrap (i'*t1_r4)))),.int .i64 (IntKind.i64.wrap (c_b1+(IntKind.i64.wrap (j'*t1_r4)))),.int .i64 (IntKind.i64.wrap (c_b2+(IntKind.i64.wrap (k'*t1_r4))))]]]:List PV)))
 else
  L tab C 95 [.log true []] [.lp [1,1,1,1,0],.lp [1,0,0,1,0]] (S95_11110_10010 t1_r0 t1_r1 t1_r2 t1_r3 t1_r4 t1_r5 r_' depth' i' (IntKind.i64.wrap (j'+(1:Int))) b100000_b c_b0 c_b1 c_b2):=by kernel_rfl
theorem e95_11110_10010_10010_s1 (C:CallF) (t1_r0:Int)(t1_r1:List PV)(t1_r2 t1_r3 t1_r4 t1_r5 r_' c_r0 c_r1 c_r2 depth' i' j' k':Int)(b100000_b:List PV):R tab C 95 [.log true []] [.lp [1,1,1,1,0],.lp [1,0,0,1,0],.lp [1,0,0,1,0]] (S95_11110_10010_10010_s1 t1_r0 t1_r1 t1_r2 t1_r3 t1_r4 t1_r5 r_' c_r0 c_r1 c_r2 depth' i' j' k' b100000_b) =
 bif (leI k' depth') then
  bif (ltI (IntKind.i64.wrap ((IntKind.i64.wrap ((IntKind.i64.wrap (i'*i'))+(IntKind.i64.wrap (j'*j'))))+(IntKind.i64.wrap (k'*k')))) (IntKind.i64.wrap ((IntKind.i64.wrap (r_'*r_'))-r_'))) then
   L tab C 95 [.log true []] [.lp [1,1,1,1,0],.lp [1,0,0,1,0],.lp [1,0,0,1,0]] (S95_11110_10010_10010_s1 t1_r0 t1_r1 t1_r2 t1_r3 t1_r4 t1_r5 r_' c_r0 c_r1 c_r2 depth' i' j' (IntKind.i64.wrap (k'+(1:Int))) b100000_b)
  else
   bif (gtI (IntKind.i64.wrap ((IntKind.i64.wrap ((IntKind.i64.wrap (i'*i'))+(IntKind.i64.wrap (j'*j'))))+(IntKind.i64.wrap (k'*k')))) (IntKind.i64.wrap ((IntKind.i64.wrap (r_'*r_'))+r_'))) then
    L tab C 95 [.log true []] [.lp [1,1,1,1,0],.lp [1,0,0,1,0],.lp [1,0,0,1,0]] (S95_11110_10010_10010_s1 t1_r0 t1_r1 t1_r2 t1_r3 t1_r4 t1_r5 r_' c_r0 c_r1 c_r2 depth' i' j' (IntKind.i64.wrap (k'+(1:Int))) b100000_b)
   else
    bif (t1_r5==(1:Int)) then
     fork (some ([],[.log false (b100000_b++([.agg [.agg [.int .i64 (IntKind.i64.wrap (c_r0+(IntKind.i64.wrap (i'*t1_r4)))),.int .i64 (IntKind.i64.wrap (c_r1+(0:Int))),.int .i64 (IntKind.i64.wrap (c_r2+(IntKind.i64.wrap (j'*t1_r4))))]]]:List PV))])) <|
     L tab C 95 [.log true []] [.lp [1,1,1,1,0],.lp [1,0,0,1,0],.lp [1,0,0,1,0]] (S95_11110_10010_10010_s1 t1_r0 t1_r1 t1_r2 t1_r3 t1_r4 t1_r5 r_' c_r0 c_r1 c_r2 depth' i' j' (IntKind.i64.wrap (k'+(1:Int))) (b100000_b++([.agg [.agg [.int .i64 (IntKind.i64.wrap (c_r0+(IntKind.i64.wrap (i'*t1_r4)))),.int .i64 (IntKind.i64.wrap (c_r1+(0:Int))),.int .i64 (IntKind.i64.wrap (c_r2+(IntKind.i64.wrap (j'*t1_r4))))]]]:List PV)))
    else
     bif (t1_r5==(2:Int)) then
      fork (some ([],[.log false (b100000_b++([.agg [.agg [.int .i64 (IntKind.i64.wrap (c_r0+(0:Int))),.int .i64 (IntKind.i64.wrap (c_r1+(IntKind.i64.wrap (i'*t1_r4)))),.int .i64 (IntKind.i64.wrap (c_r2+(IntKind.i64.wrap (j'*t1_r4))))]]]:List PV))])) <|
      L tab C 95 [.log true []] [.lp [1,1,1,1,0],.lp [1,0,0,1,0],.lp [1,0,0,1,0]] (S95_11110_10010_10010_s1 t1_r0 t1_r1 t1_r2 t1_r3 t1_r4 t1_r5 r_' c_r0 c_r1 c_r2 depth' i' j' (IntKind.i64.wrap (k'+(1:Int))) (b100000_b++([.agg [.agg [.int .i64 (IntKind.i64.wrap (c_r0+(0:Int))),.int .i64 (IntKind.i64.wrap (c_r1+(IntKind.i64.wrap (i'*t1_r4)))),.int .i64 (IntKind.i64.wrap (c_r2+(IntKind.i64.wrap (j'*t1_r4))))]]]:List PV)))
     else
      fork (some ([],[.log false (b100000_b++([.agg [.agg [.int .i64 (IntKind.i64.wrap (c_r0+(IntKind.i64.wrap (i'*t1_r4)))),.int .i64 (IntKind.i64.wrap (c_r1+(IntKind.i64.wrap (j'*t1_r4)))),.int .i64 (IntKind.i64.wrap (c_r2+(IntKind.i64.wrap (k'*t1_r4))))]]]:List PV))])) <|
      L tab C 95 [.log true []] [.lp [1,1,1,1,0],.lp [1,0,0,1,0],.lp [1,0,0,1,0]] (S95_11110_10010_10010_s1 t1_r0 t1_r1 t1_r2 t1_r3 t1_r4 t1_r5 r_' c_r0 c_r1 c_r2 depth' i' j' (IntKind.i64.wrap (k'+(1:Int))) (b100000_b++([.agg [.agg [.int .i64 (IntKind.i64.wrap (c_r0+(IntKind.i64.wrap (i'*t1_r4)))),.int .i64 (IntKind.i64.wrap (c_r1+(IntKind.i64.wrap (j'*t1_r4)))),.int .i64 (IntKind.i64.wrap (c_r2+(IntKind.i64.wrap (k'*t1_r4))))]]]:List PV)))
 else
  L tab C 95 [.log true []] [.lp [1,1,1,1,0],.lp [1,0,0,1,0]] (S95_11110_10010_s1 t1_r0 t1_r1 t1_r2 t1_r3 t1_r4 t1_r5 r_' c_r0 c_r1 c_r2 depth' i' (IntKind.i64.wrap (j'+(1:Int))) b100000_b):=by kernel_rfl
theorem e95_11110_10010_s1 (C:CallF) (t1_r0:Int)(t1_r1:List PV)(t1_r2 t1_r3 t1_r4 t1_r5 r_' c_r0 c_r1 c_r2 depth' i' j':Int)(b100000_b:List PV):R tab C 95 [.log true []] [.lp [1,1,1,1,0],.lp [1,0,0,1,0]] (S95_11110_10010_s1 t1_r0 t1_r1 t1_r2 t1_r3 t1_r4 t1_r5 r_' c_r0 c_r1 c_r2 depth' i' j' b100000_b) =
 bif (leI j' (IntKind.i64.wrap (r_'+(1:Int)))) then
  L tab C 95 [.log true []] [.lp [1,1,1,1,0],.lp [1,0,0,1,0],.lp [1,0,0,1,0]] (S95_11110_10010_10010_s1 t1_r0 t1_r1 t1_r2 t1_r3 t1_r4 t1_r5 r_' c_r0 c_r1 c_r2 depth' i' j' (IntKind.i64.wrap (0-depth')) b100000_b)
 else
  L tab C 95 [.log true []] [.lp [1,1,1,1,0]] (S95_11110_s1 t1_r0 t1_r1 t1_r2 t1_r3 t1_r4 t1_r5 r_' c_r0 c_r1 c_r2 depth' (IntKind.i64.wrap (i'+(1:Int))) b100000_b):=by kernel_rfl
theorem e95_11110_s1 (C:CallF) (t1_r0:Int)(t1_r1:List PV)(t1_r2 t1_r3 t1_r4 t1_r5 r_' c_r0 c_r1 c_r2 depth' i':Int)(b100000_b:List PV):R tab C 95 [.log true []] [.lp [1,1,1,1,0]] (S95_11110_s1 t1_r0 t1_r1 t1_r2 t1_r3 t1_r4 t1_r5 r_' c_r0 c_r1 c_r2 depth' i' b100000_b) =
 bif (leI i' (IntKind.i64.wrap (r_'+(1:Int)))) then
  L tab C 95 [.log true []] [.lp [1,1,1,1,0],.lp [1,0,0,1,0]] (S95_11110_10010_s1 t1_r0 t1_r1 t1_r2 t1_r3 t1_r4 t1_r5 r_' c_r0 c_r1 c_r2 depth' i' (IntKind.i64.wrap ((IntKind.i64.wrap (0-r_'))-(1:Int))) b100000_b)
 else
  some ([],[.log true b100000_b]):=by kernel_rfl
theorem e99 (C:CallF) (x y:Int):acallI tab C 99 [.p (.int .i64 x),.p (.int .i64 y)] [] =
 (C 120 [.p (.int .i64 x)] []).bind fun r1 =>
 (C 120 [.p (.int .i64 y)] []).bind fun r2 =>
 bif (r1.1.headD .undef).pv.toBool then
  bif (r2.1.headD .undef).pv.toBool then
   some ([.p (.int .i64 0)],[])
  else
   some ([.p (.int .i64 (-1))],[])
 else
  bif (r2.1.headD .undef).pv.toBool then
   some ([.p (.int .i64 1)],[])
  else
   bif (ltI x y) then
    some ([.p (.int .i64 (-1))],[])
   else
    bif (gtI x y) then
     some ([.p (.int .i64 1)],[])
    else
     some ([.p (.int .i64 0)],[]):=by kernel_rfl
theorem e100 (C:CallF) (a_0 a_1 a_2 b_0 b_1 b_2 num den:Int):acallI tab C 100 [.p (.agg [.int .i64 a_0,.int .i64 a_1,.int .i64 a_2]),.p (.agg [.int .i64 b_0,.int .i64 b_1,.int .i64 b_2]),.p (.int .i64 num),.p (.int .i64 den)] [] =
 (C 27 [.p (.agg [.int .i64 b_0,.int .i64 b_1,.int .i64 b_2]),.p (.agg [.int .i64 a_0,.int .i64 a_1,.int .i64 a_2])] []).bind fun r1 =>
 (C 121 [.p (.int .i64 (IntKind.i64.wrap (((r1.1.headD .undef).pv.cell 0).toInt*num))),.p (.int .i64 den)] []).bind fun r2 =>
 (C 121 [.p (.int .i64 (IntKind.i64.wrap (((r1.1.headD .undef).pv.cell 1).toInt*num))),.p (.int .i64 den)] []).bind fun r3 =>
 (C 121 [.p (.int .i64 (IntKind.i64.wrap (((r1.1.headD .undef).pv.cell 2).toInt*num))),.p (.int .i64 den)] []).bind fun r4 =>
 (C 26 [.p (.agg [.int .i64 a_0,.int .i64 a_1,.int .i64 a_2]),.p (.agg [.int .i64 ((r2.1.headD .undef).pv.toInt),.int .i64 ((r3.1.headD .undef).pv.toInt),.int .i64 ((r4.1.headD .undef).pv.toInt)])] []).bind fun r5 =>
 some ([.p (.agg [.int .i64 (((r5.1.headD .undef).pv.cell 0).toInt),.int .i64 (((r5.1.headD .undef).pv.cell 1).toInt),.int .i64 (((r5.1.headD .undef).pv.cell 2).toInt)])],[]):=by kernel_rfl
def S108_1010v (s':List PV)(t7' t8':Int):St:=⟨(.p (.list true kV3 s'))::(.p (.fn 91 []))::.undef::.undef::.undef::.undef::.undef::(.p (.int .i64 t7'))::(.p (.int .i64 t8'))::List.replicate 10 .undef,[]⟩
theorem e108v (C:CallF) (s:List PV):acallI tab C 108 [.p (.list true kV3 s),.p (.fn 91 [])] [] =
 L tab C 108 [] [.lp [1,0,1,0]] (S108_1010v s ((s.length:Nat):Int) 0):=by kernel_rfl
theorem e108_1010v (C:CallF) (s':List PV)(t7' t8':Int):R tab C 108 [] [.lp [1,0,1,0]] (S108_1010v s' t7' t8') =
 bif (ltI t8' t7') then
  bif ((leI (0:Int) t8')&&(ltI t8' ((s'.length:Nat):Int))) then(C 91 [.p (.agg [.int .i64 (((s'.getD t8'.toNat .nil).cell 0).toInt),.int .i64 (((s'.getD t8'.toNat .nil).cell 1).toInt),.int .i64 (((s'.getD t8'.toNat .nil).cell 2).toInt)])] []).bind fun r1 =>
  bif (r1.1.headD .undef).pv.toBool then
   some ([.p (.int .i64 t8')],[])
  else
   L tab C 108 [] [.lp [1,0,1,0]] (S108_1010v s' t7' (IntKind.i64.wrap (t8'+(1:Int)))) else none
 else
  some ([.p (.int .i64 (-1))],[]):=by kernel_rfl
theorem e109 (C:CallF) (x y c0 c1:Int):acallI tab C 109 [.p (.int .i64 x),.p (.int .i64 y),.p (.ref [.int .i64 c0]),.p (.ref [.int .i64 c1])] [] =
 bif (!(eqI (IntKind.i64.wrap ((2:Int)*c1)) (0:Int))) then bif (!(eqI (IntKind.i64.wrap ((2:Int)*c1)) (0:Int))) then bif (ltI ((IntKind.i64.wrap ((IntKind.i64.wrap ((IntKind.i64.wrap ((2:Int)*(IntKind.i64.wrap (y-x))))*c0))+c1)).tmod (IntKind.i64.wrap ((2:Int)*c1))) (0:Int)) then
  some ([.p (.int .i64 (IntKind.i64.wrap (x+(IntKind.i64.wrap ((IntKind.i64.wrap ((IntKind.i64.wrap ((IntKind.i64.wrap ((IntKind.i64.wrap ((2:Int)*(IntKind.i64.wrap (y-x))))*c0))+c1)).tdiv (IntKind.i64.wrap ((2:Int)*c1))))-(1:Int))))))],[])
 else
  some ([.p (.int .i64 (IntKind.i64.wrap (x+(IntKind.i64.wrap ((IntKind.i64.wrap ((IntKind.i64.wrap ((IntKind.i64.wrap ((2:Int)*(IntKind.i64.wrap (y-x))))*c0))+c1)).tdiv (IntKind.i64.wrap ((2:Int)*c1)))))))],[]) else none else none:=by kernel_rfl
theorem e120 (C:CallF) (x:Int):acallI tab C 120 [.p (.int .i64 x)] [] =
 some ([.p (.bool (x != x))],[]):=by kernel_rfl
def S121_1100 (n_' d' q':Int):St:=⟨(.p (.int .i64 n_'))::(.p (.int .i64 d'))::.undef::.undef::.undef::(.p (.int .i64 q'))::List.replicate 25 .undef,[]⟩
def S121_11100 (n_' d' q':Int):St:=⟨(.p (.int .i64 n_'))::(.p (.int .i64 d'))::.undef::.undef::.undef::(.p (.int .i64 q'))::List.replicate 25 .undef,[]⟩
theorem e121 (C:CallF) (n_ d:Int):acallI tab C 121 [.p (.int .i64 n_),.p (.int .i64 d)] [] =
 bif (!(eqI d (0:Int))) then L tab C 121 [] [.lp [1,1,0,0]] (S121_1100 n_ d (IntKind.i64.wrap (n_.tdiv d))) else none:=by kernel_rfl
theorem e121_1100 (C:CallF) (n_' d' q':Int):R tab C 121 [] [.lp [1,1,0,0]] (S121_1100 n_' d' q') =
 bif (geI (IntKind.i64.wrap ((2:Int)*(IntKind.i64.wrap (n_'-(IntKind.i64.wrap (q'*d')))))) d') then
  L tab C 121 [] [.lp [1,1,0,0]] (S121_1100 n_' d' (IntKind.i64.wrap (q'+(1:Int))))
 else
  L tab C 121 [] [.lp [1,1,1,0,0]] (S121_11100 n_' d' q'):=by kernel_rfl
theorem e121_11100 (C:CallF) (n_' d' q':Int):R tab C 121 [] [.lp [1,1,1,0,0]] (S121_11100 n_' d' q') =
 bif (ltI (IntKind.i64.wrap ((2:Int)*(IntKind.i64.wrap (n_'-(IntKind.i64.wrap (q'*d')))))) (IntKind.i64.wrap (0-d'))) then
  L tab C 121 [] [.lp [1,1,1,0,0]] (S121_11100 n_' d' (IntKind.i64.wrap (q'-(1:Int))))
 else
  some ([.p (.int .i64 q')],[]):=by kernel_rfl
end Go.Skm.Fig
