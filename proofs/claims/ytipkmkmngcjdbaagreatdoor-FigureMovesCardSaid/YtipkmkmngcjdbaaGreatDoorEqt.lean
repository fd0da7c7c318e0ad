/-
  What the machine does in each function of this program, and in each round of each loop; no condition.
-/
import Derived.Test.YtipkmkmngcjdbaaGreatDoorSkmE
import Derived.Test.YtipkmkmngcjdbaaGreatDoorTab
import Derived.KernelRfl
set_option maxRecDepth 100000
namespace Go.Skm.Fig
open Go Go.Skm
def dU (Qw:List PV)(Yf MG:Int)(Qx:List PV)(uQ uS:Nat):St:=⟨.undef::.undef::.undef::.undef::.undef::(.ptr 5 0 0)::(.fn 74 [.ptr 5 0 0])::.undef::.undef::.undef::.undef::.undef::.undef::.undef::.undef::.undef::.undef::.undef::.undef::.undef::.undef::.undef::.undef::.undef::.undef::.undef::.undef::.undef::.undef::.undef::.undef::.undef::.undef::.undef::.undef::.undef::.undef::.undef::.undef::.undef::.undef::.undef::.undef::.undef::.undef::.undef::.undef::.undef::.undef::(.p (.list true gU Qw))::(.p (.int .i64 Yf))::(.p (.int .i64 MG))::List.replicate 15 .undef,[(17,.arr false [.str] Qx),(5,.box [.slice 17 1 uQ uS])]⟩
theorem e40 (C:aF) (s_0:Int)(s_1:List PV)(s_2 zZ Aa oL:Int):bn tab C 40 [.p (.agg [.int .i64 s_0,.list true gU s_1,.int .i64 s_2,.int .i64 zZ,.int .i64 Aa,.int .i64 oL])] [] =
 (C 73 [.p (.int .i64 s_0)] []).bind fun r1 =>
 bif ((r1.1.headD .undef).pv.cell 3).toBool then
  (C 74 [.p (.list false [.int .i64] [.int .i64 s_2]),.ptr 100000 0 0] [.box [.slice 99999 1 0 1],.arr false [.str] [.str (((r1.1.headD .undef).pv.cell 0).toStr)]]).bind fun r2 =>
  bif ((r1.1.headD .undef).pv.cell 5).toBool then
   bif ((leI (0:Int) (IntKind.i64.wrap ((2:Int)*oL)))&&((leI (IntKind.i64.wrap ((2:Int)*oL)) (IntKind.i64.wrap ((IntKind.i64.wrap ((2:Int)*oL))+(2:Int))))&&(leI (IntKind.i64.wrap ((IntKind.i64.wrap ((2:Int)*oL))+(2:Int))) (6:Int)))) then bif (Qr ((sK r2.2).sLen+1) 2147483648) then bif ((r1.1.headD .undef).pv.cell 4).toBool then
    (C 74 [.p (.list false [.int .i64] [.int .i64 zZ,.int .i64 Aa]),.ptr 100000 0 0] [.box [.slice 99999 1 0 ((sK r2.2).sLen+1)],.arr false [.str] ((((zx r2.2).drop ((sK r2.2).Es)).take ((sK r2.2).sLen))++([.str ((⟨#[120,121,120,122,121,122]⟩:ByteArray).extract ((IntKind.i64.wrap ((2:Int)*oL)).toNat) ((IntKind.i64.wrap ((IntKind.i64.wrap ((2:Int)*oL))+(2:Int))).toNat))]:List PV))]).bind fun r3 =>
    L tab C 40 [] [.lp [1,1,1,1,1,1,1,0,1,0]] (dU s_1 ((s_1.length:Nat):Int) 0 (zx r3.2) ((sK r3.2).Es) ((sK r3.2).sLen))
   else
    L tab C 40 [] [.lp [1,1,1,1,1,1,1,0,1,0]] (dU s_1 ((s_1.length:Nat):Int) 0 ((((zx r2.2).drop ((sK r2.2).Es)).take ((sK r2.2).sLen))++([.str ((⟨#[120,121,120,122,121,122]⟩:ByteArray).extract ((IntKind.i64.wrap ((2:Int)*oL)).toNat) ((IntKind.i64.wrap ((IntKind.i64.wrap ((2:Int)*oL))+(2:Int))).toNat))]:List PV)) 0 ((sK r2.2).sLen+1)) else none else none
  else
   bif ((r1.1.headD .undef).pv.cell 4).toBool then
    (C 74 [.p (.list false [.int .i64] [.int .i64 zZ,.int .i64 Aa]),.ptr 100000 0 0] [.box [.slice 99999 1 ((sK r2.2).Es) ((sK r2.2).sLen)],.arr false [.str] (zx r2.2)]).bind fun r4 =>
    L tab C 40 [] [.lp [1,1,1,1,1,1,1,0,1,0]] (dU s_1 ((s_1.length:Nat):Int) 0 (zx r4.2) ((sK r4.2).Es) ((sK r4.2).sLen))
   else
    L tab C 40 [] [.lp [1,1,1,1,1,1,1,0,1,0]] (dU s_1 ((s_1.length:Nat):Int) 0 (zx r2.2) ((sK r2.2).Es) ((sK r2.2).sLen))
 else
  bif ((r1.1.headD .undef).pv.cell 5).toBool then
   bif ((leI (0:Int) (IntKind.i64.wrap ((2:Int)*oL)))&&((leI (IntKind.i64.wrap ((2:Int)*oL)) (IntKind.i64.wrap ((IntKind.i64.wrap ((2:Int)*oL))+(2:Int))))&&(leI (IntKind.i64.wrap ((IntKind.i64.wrap ((2:Int)*oL))+(2:Int))) (6:Int)))) then bif ((r1.1.headD .undef).pv.cell 4).toBool then
    (C 74 [.p (.list false [.int .i64] [.int .i64 zZ,.int .i64 Aa]),.ptr 100000 0 0] [.box [.slice 99999 1 0 2],.arr false [.str] [.str (((r1.1.headD .undef).pv.cell 0).toStr),.str ((⟨#[120,121,120,122,121,122]⟩:ByteArray).extract ((IntKind.i64.wrap ((2:Int)*oL)).toNat) ((IntKind.i64.wrap ((IntKind.i64.wrap ((2:Int)*oL))+(2:Int))).toNat))]]).bind fun r5 =>
    L tab C 40 [] [.lp [1,1,1,1,1,1,1,0,1,0]] (dU s_1 ((s_1.length:Nat):Int) 0 (zx r5.2) ((sK r5.2).Es) ((sK r5.2).sLen))
   else
    L tab C 40 [] [.lp [1,1,1,1,1,1,1,0,1,0]] (dU s_1 ((s_1.length:Nat):Int) 0 [.str (((r1.1.headD .undef).pv.cell 0).toStr),.str ((⟨#[120,121,120,122,121,122]⟩:ByteArray).extract ((IntKind.i64.wrap ((2:Int)*oL)).toNat) ((IntKind.i64.wrap ((IntKind.i64.wrap ((2:Int)*oL))+(2:Int))).toNat))] 0 2) else none
  else
   bif ((r1.1.headD .undef).pv.cell 4).toBool then
    (C 74 [.p (.list false [.int .i64] [.int .i64 zZ,.int .i64 Aa]),.ptr 100000 0 0] [.box [.slice 99999 1 0 1],.arr false [.str] [.str (((r1.1.headD .undef).pv.cell 0).toStr)]]).bind fun r6 =>
    L tab C 40 [] [.lp [1,1,1,1,1,1,1,0,1,0]] (dU s_1 ((s_1.length:Nat):Int) 0 (zx r6.2) ((sK r6.2).Es) ((sK r6.2).sLen))
   else
    L tab C 40 [] [.lp [1,1,1,1,1,1,1,0,1,0]] (dU s_1 ((s_1.length:Nat):Int) 0 [.str (((r1.1.headD .undef).pv.cell 0).toStr)] 0 1):=by kernel_rfl
theorem Ac (C:aF) (Qw:List PV)(Yf MG:Int)(Qx:List PV)(uQ uS:Nat):R tab C 40 [] [.lp [1,1,1,1,1,1,1,0,1,0]] (dU Qw Yf MG Qx uQ uS) =
 bif (jo MG Yf) then
  bif ((leI (0:Int) MG)&&(jo MG ((Qw.length:Nat):Int))) then(C 74 [.p (.list false [.int .i64] [.int .i64 (((Qw.getD MG.toNat .nil).cell 0).toInt),.int .i64 (((Qw.getD MG.toNat .nil).cell 1).toInt),.int .i64 (((Qw.getD MG.toNat .nil).cell 2).toInt)]),.ptr 100000 0 0] [.box [.slice 99999 1 uQ uS],.arr false [.str] Qx]).bind fun r1 =>
  L tab C 40 [] [.lp [1,1,1,1,1,1,1,0,1,0]] (dU Qw Yf (IntKind.i64.wrap (MG+(1:Int))) (zx r1.2) ((sK r1.2).Es) ((sK r1.2).sLen)) else none
 else
  (C 76 [.p (.list false [.str] ((Qx.drop uQ).take uS)),.p (.str ⟨#[32]⟩)] []).bind fun r2 =>
  some ([.p (.str ((r2.1.headD .undef).pv.toStr))],[]):=by kernel_rfl
def rE (line':ByteArray)(kind' kE kG kH kJ kK:Int)(aT:List PV)(iO jq jr jv jd:Int)(aai:ByteArray)(aaj aak:Int)(Yg MH V8:Bool):St:=⟨(.p (.str line'))::.undef::(.ptr 2 0 0)::.undef::(.ptr 4 0 0)::(.ptr 5 0 0)::(.ptr 6 0 0)::(.p (.int .i64 kind'))::List.replicate 78 .undef,[(2,.box [.p (.int .i64 kE),.p (.nil),.p (.int .i64 kG),.p (.int .i64 kH),.p (.int .i64 kJ),.p (.int .i64 kK)]),(4,.box [.p (.list false [.str] aT)]),(5,.box [.p (.int .i64 iO),.p (.nil),.p (.int .i64 jq),.p (.int .i64 jr),.p (.int .i64 jv),.p (.int .i64 jd)]),(6,.box [.p (.str aai),.p (.int .i64 aaj),.p (.int .i64 aak),.p (.bool Yg),.p (.bool MH),.p (.bool V8)])]⟩
def bV (line':ByteArray)(kE kG kH kJ kK:Int)(aT:List PV)(iO jq jr jv jd:Int):St:=⟨(.p (.str line'))::.undef::(.ptr 2 0 0)::.undef::(.ptr 4 0 0)::(.ptr 5 0 0)::.undef::.undef::.undef::.undef::(.fn 80 [.ptr 4 0 0])::List.replicate 75 .undef,[(2,.box [.p (.int .i64 kE),.p (.nil),.p (.int .i64 kG),.p (.int .i64 kH),.p (.int .i64 kJ),.p (.int .i64 kK)]),(4,.box [.p (.list false [.str] aT)]),(5,.box [.p (.int .i64 iO),.p (.nil),.p (.int .i64 jq),.p (.int .i64 jr),.p (.int .i64 jv),.p (.int .i64 jd)])]⟩
def jZ (line':ByteArray)(kE kG kH kJ kK:Int)(aT:List PV)(iO:Int)(jB iK:Nat)(jq jr jv jd:Int)(G8:List PV):St:=⟨(.p (.str line'))::.undef::(.ptr 2 0 0)::.undef::(.ptr 4 0 0)::(.ptr 5 0 0)::.undef::.undef::.undef::.undef::(.fn 80 [.ptr 4 0 0])::List.replicate 75 .undef,[(2,.box [.p (.int .i64 kE),.p (.nil),.p (.int .i64 kG),.p (.int .i64 kH),.p (.int .i64 kJ),.p (.int .i64 kK)]),(4,.box [.p (.list false [.str] aT)]),(5,.box [.p (.int .i64 iO),.slice 75 3 jB iK,.p (.int .i64 jq),.p (.int .i64 jr),.p (.int .i64 jv),.p (.int .i64 jd)]),(75,.arr true gU G8)]⟩
theorem e44 (C:aF) (line:ByteArray):bn tab C 44 [.p (.str line)] [] =
 (C 79 [.p (.str line),.p (.str ⟨#[32]⟩)] []).bind fun r1 =>
 L tab C 44 [] [.lp [1,1,1,1,0,1,0]] (rE line 1 0 0 0 0 0 ((r1.1.headD .undef).pv.toList) 0 0 0 0 0 ⟨#[]⟩ 0 0 false false false):=by kernel_rfl
theorem lq (C:aF) (line':ByteArray)(kind' kE kG kH kJ kK:Int)(aT:List PV)(iO jq jr jv jd:Int)(aai:ByteArray)(aaj aak:Int)(Yg MH V8:Bool):R tab C 44 [] [.lp [1,1,1,1,0,1,0]] (rE line' kind' kE kG kH kJ kK aT iO jq jr jv jd aai aaj aak Yg MH V8) =
 bif (leI kind' (5:Int)) then
  (C 73 [.p (.int .i64 kind')] []).bind fun r1 =>
  bif (jo (0:Int) ((aT.length:Nat):Int)) then bif ((((r1.1.headD .undef).pv.cell 0).toStr).toList==(((aT.getD 0 .nil).cell 0).toStr).toList) then
   L tab C 44 [] [.lp [1,1,1,1,0,1,0]] (rE line' (IntKind.i64.wrap (kind'+(1:Int))) kE kG kH kJ kK aT kind' jq jr jv jd (((r1.1.headD .undef).pv.cell 0).toStr) (((r1.1.headD .undef).pv.cell 1).toInt) (((r1.1.headD .undef).pv.cell 2).toInt) (((r1.1.headD .undef).pv.cell 3).toBool) (((r1.1.headD .undef).pv.cell 4).toBool) (((r1.1.headD .undef).pv.cell 5).toBool))
  else
   L tab C 44 [] [.lp [1,1,1,1,0,1,0]] (rE line' (IntKind.i64.wrap (kind'+(1:Int))) kE kG kH kJ kK aT iO jq jr jv jd aai aaj aak Yg MH V8) else none
 else
  bif ((leI (1:Int) ((aT.length:Nat):Int))&&((leI ((aT.length:Nat):Int) ((aT.length:Nat):Int))&&(leI ((aT.length:Nat):Int) ((aT.length:Nat):Int)))) then bif Yg then
   (C 80 [.ptr 100000 0 0] [.box [.p (.list false [.str] ((aT.drop 1).take ((((aT.length:Nat):Int)-(1:Int)).toNat)))]]).bind fun r2 =>
   bif V8 then
    bif (Dt (((((r2.2.headD (.box [])).cs.getD 0 .undef).pv.toList).length:Nat):Int) (0:Int)) then
     bif (jo (0:Int) (((((r2.2.headD (.box [])).cs.getD 0 .undef).pv.toList).length:Nat):Int)) then(C 82 [.p (.str ⟨#[120,121,120,122,121,122]⟩),.p (.str ((((((r2.2.headD (.box [])).cs.getD 0 .undef).pv.toList).getD 0 .nil).cell 0).toStr))] []).bind fun r3 =>
     bif ((leI (1:Int) (((((r2.2.headD (.box [])).cs.getD 0 .undef).pv.toList).length:Nat):Int))&&((leI (((((r2.2.headD (.box [])).cs.getD 0 .undef).pv.toList).length:Nat):Int) (((((r2.2.headD (.box [])).cs.getD 0 .undef).pv.toList).length:Nat):Int))&&(leI (((((r2.2.headD (.box [])).cs.getD 0 .undef).pv.toList).length:Nat):Int) (((((r2.2.headD (.box [])).cs.getD 0 .undef).pv.toList).length:Nat):Int)))) then bif MH then
      (C 80 [.ptr 100000 0 0] [.box [.p (.list false [.str] (((((r2.2.headD (.box [])).cs.getD 0 .undef).pv.toList).drop 1).take (((((((r2.2.headD (.box [])).cs.getD 0 .undef).pv.toList).length:Nat):Int)-(1:Int)).toNat)))]]).bind fun r4 =>
      (C 80 [.ptr 100000 0 0] [.box [.p (.list false [.str] (((r4.2.headD (.box [])).cs.getD 0 .undef).pv.toList))]]).bind fun r5 =>
      L tab C 44 [] [.lp [1,1,1,1,1,1,1,1,1,1,0,0]] (bV line' kE kG kH kJ kK (((r5.2.headD (.box [])).cs.getD 0 .undef).pv.toList) iO ((r2.1.headD .undef).pv.toInt) ((r4.1.headD .undef).pv.toInt) ((r5.1.headD .undef).pv.toInt) (IntKind.i64.wrap (((r3.1.headD .undef).pv.toInt).tdiv (2:Int))))
     else
      L tab C 44 [] [.lp [1,1,1,1,1,1,1,1,1,1,0,0]] (bV line' kE kG kH kJ kK (((((r2.2.headD (.box [])).cs.getD 0 .undef).pv.toList).drop 1).take (((((((r2.2.headD (.box [])).cs.getD 0 .undef).pv.toList).length:Nat):Int)-(1:Int)).toNat)) iO ((r2.1.headD .undef).pv.toInt) jr jv (IntKind.i64.wrap (((r3.1.headD .undef).pv.toInt).tdiv (2:Int)))) else none else none
    else
     bif MH then
      (C 80 [.ptr 100000 0 0] [.box [.p (.list false [.str] (((r2.2.headD (.box [])).cs.getD 0 .undef).pv.toList))]]).bind fun r6 =>
      (C 80 [.ptr 100000 0 0] [.box [.p (.list false [.str] (((r6.2.headD (.box [])).cs.getD 0 .undef).pv.toList))]]).bind fun r7 =>
      L tab C 44 [] [.lp [1,1,1,1,1,1,1,1,1,1,0,0]] (bV line' kE kG kH kJ kK (((r7.2.headD (.box [])).cs.getD 0 .undef).pv.toList) iO ((r2.1.headD .undef).pv.toInt) ((r6.1.headD .undef).pv.toInt) ((r7.1.headD .undef).pv.toInt) jd)
     else
      L tab C 44 [] [.lp [1,1,1,1,1,1,1,1,1,1,0,0]] (bV line' kE kG kH kJ kK (((r2.2.headD (.box [])).cs.getD 0 .undef).pv.toList) iO ((r2.1.headD .undef).pv.toInt) jr jv jd)
   else
    bif MH then
     (C 80 [.ptr 100000 0 0] [.box [.p (.list false [.str] (((r2.2.headD (.box [])).cs.getD 0 .undef).pv.toList))]]).bind fun r8 =>
     (C 80 [.ptr 100000 0 0] [.box [.p (.list false [.str] (((r8.2.headD (.box [])).cs.getD 0 .undef).pv.toList))]]).bind fun r9 =>
     L tab C 44 [] [.lp [1,1,1,1,1,1,1,1,1,1,0,0]] (bV line' kE kG kH kJ kK (((r9.2.headD (.box [])).cs.getD 0 .undef).pv.toList) iO ((r2.1.headD .undef).pv.toInt) ((r8.1.headD .undef).pv.toInt) ((r9.1.headD .undef).pv.toInt) jd)
    else
     L tab C 44 [] [.lp [1,1,1,1,1,1,1,1,1,1,0,0]] (bV line' kE kG kH kJ kK (((r2.2.headD (.box [])).cs.getD 0 .undef).pv.toList) iO ((r2.1.headD .undef).pv.toInt) jr jv jd)
  else
   bif V8 then
    bif (Dt ((((aT.drop 1).take ((((aT.length:Nat):Int)-(1:Int)).toNat)).length:Nat):Int) (0:Int)) then
     bif (jo (0:Int) ((((aT.drop 1).take ((((aT.length:Nat):Int)-(1:Int)).toNat)).length:Nat):Int)) then(C 82 [.p (.str ⟨#[120,121,120,122,121,122]⟩),.p (.str (((((aT.drop 1).take ((((aT.length:Nat):Int)-(1:Int)).toNat)).getD 0 .nil).cell 0).toStr))] []).bind fun r10 =>
     bif ((leI (1:Int) ((((aT.drop 1).take ((((aT.length:Nat):Int)-(1:Int)).toNat)).length:Nat):Int))&&((leI ((((aT.drop 1).take ((((aT.length:Nat):Int)-(1:Int)).toNat)).length:Nat):Int) ((((aT.drop 1).take ((((aT.length:Nat):Int)-(1:Int)).toNat)).length:Nat):Int))&&(leI ((((aT.drop 1).take ((((aT.length:Nat):Int)-(1:Int)).toNat)).length:Nat):Int) ((((aT.drop 1).take ((((aT.length:Nat):Int)-(1:Int)).toNat)).length:Nat):Int)))) then bif MH then
      (C 80 [.ptr 100000 0 0] [.box [.p (.list false [.str] ((((aT.drop 1).take ((((aT.length:Nat):Int)-(1:Int)).toNat)).drop 1).take ((((((aT.drop 1).take ((((aT.length:Nat):Int)-(1:Int)).toNat)).length:Nat):Int)-(1:Int)).toNat)))]]).bind fun r11 =>
      (C 80 [.ptr 100000 0 0] [.box [.p (.list false [.str] (((r11.2.headD (.box [])).cs.getD 0 .undef).pv.toList))]]).bind fun r12 =>
      L tab C 44 [] [.lp [1,1,1,1,1,1,1,1,1,1,0,0]] (bV line' kE kG kH kJ kK (((r12.2.headD (.box [])).cs.getD 0 .undef).pv.toList) iO jq ((r11.1.headD .undef).pv.toInt) ((r12.1.headD .undef).pv.toInt) (IntKind.i64.wrap (((r10.1.headD .undef).pv.toInt).tdiv (2:Int))))
     else
      L tab C 44 [] [.lp [1,1,1,1,1,1,1,1,1,1,0,0]] (bV line' kE kG kH kJ kK ((((aT.drop 1).take ((((aT.length:Nat):Int)-(1:Int)).toNat)).drop 1).take ((((((aT.drop 1).take ((((aT.length:Nat):Int)-(1:Int)).toNat)).length:Nat):Int)-(1:Int)).toNat)) iO jq jr jv (IntKind.i64.wrap (((r10.1.headD .undef).pv.toInt).tdiv (2:Int)))) else none else none
    else
     bif MH then
      (C 80 [.ptr 100000 0 0] [.box [.p (.list false [.str] ((aT.drop 1).take ((((aT.length:Nat):Int)-(1:Int)).toNat)))]]).bind fun r13 =>
      (C 80 [.ptr 100000 0 0] [.box [.p (.list false [.str] (((r13.2.headD (.box [])).cs.getD 0 .undef).pv.toList))]]).bind fun X3 =>
      L tab C 44 [] [.lp [1,1,1,1,1,1,1,1,1,1,0,0]] (bV line' kE kG kH kJ kK (((X3.2.headD (.box [])).cs.getD 0 .undef).pv.toList) iO jq ((r13.1.headD .undef).pv.toInt) ((X3.1.headD .undef).pv.toInt) jd)
     else
      L tab C 44 [] [.lp [1,1,1,1,1,1,1,1,1,1,0,0]] (bV line' kE kG kH kJ kK ((aT.drop 1).take ((((aT.length:Nat):Int)-(1:Int)).toNat)) iO jq jr jv jd)
   else
    bif MH then
     (C 80 [.ptr 100000 0 0] [.box [.p (.list false [.str] ((aT.drop 1).take ((((aT.length:Nat):Int)-(1:Int)).toNat)))]]).bind fun r15 =>
     (C 80 [.ptr 100000 0 0] [.box [.p (.list false [.str] (((r15.2.headD (.box [])).cs.getD 0 .undef).pv.toList))]]).bind fun r16 =>
     L tab C 44 [] [.lp [1,1,1,1,1,1,1,1,1,1,0,0]] (bV line' kE kG kH kJ kK (((r16.2.headD (.box [])).cs.getD 0 .undef).pv.toList) iO jq ((r15.1.headD .undef).pv.toInt) ((r16.1.headD .undef).pv.toInt) jd)
    else
     L tab C 44 [] [.lp [1,1,1,1,1,1,1,1,1,1,0,0]] (bV line' kE kG kH kJ kK ((aT.drop 1).take ((((aT.length:Nat):Int)-(1:Int)).toNat)) iO jq jr jv jd) else none:=by kernel_rfl
theorem xO (C:aF) (line':ByteArray)(kE kG kH kJ kK:Int)(aT:List PV)(iO jq jr jv jd:Int):R tab C 44 [] [.lp [1,1,1,1,1,1,1,1,1,1,0,0]] (bV line' kE kG kH kJ kK aT iO jq jr jv jd) =
 bif (Dt ((aT.length:Nat):Int) (0:Int)) then
  (C 80 [.ptr 100000 0 0] [.box [.p (.list false [.str] aT)]]).bind fun r1 =>
  (C 80 [.ptr 100000 0 0] [.box [.p (.list false [.str] (((r1.2.headD (.box [])).cs.getD 0 .undef).pv.toList))]]).bind fun r2 =>
  (C 80 [.ptr 100000 0 0] [.box [.p (.list false [.str] (((r2.2.headD (.box [])).cs.getD 0 .undef).pv.toList))]]).bind fun r3 =>
  L tab C 44 [] [.lp [1,1,1,1,1,1,1,1,1,1,0,0]] (jZ line' kE kG kH kJ kK (((r3.2.headD (.box [])).cs.getD 0 .undef).pv.toList) iO 0 1 jq jr jv jd [.agg [.int .i64 ((r1.1.headD .undef).pv.toInt),.int .i64 ((r2.1.headD .undef).pv.toInt),.int .i64 ((r3.1.headD .undef).pv.toInt)]])
 else
  (C 54 [.p (.agg [.int .i64 iO,.nil,.int .i64 jq,.int .i64 jr,.int .i64 jv,.int .i64 jd])] []).bind fun r4 =>
  bif (r4.1.headD .undef).pv.toBool then
   (C 40 [.p (.agg [.int .i64 iO,.nil,.int .i64 jq,.int .i64 jr,.int .i64 jv,.int .i64 jd])] []).bind fun r5 =>
   some ([.p (.agg [.int .i64 iO,.nil,.int .i64 jq,.int .i64 jr,.int .i64 jv,.int .i64 jd]),.p (.bool (((r5.1.headD .undef).pv.toStr).toList==line'.toList))],[])
  else
   some ([.p (.agg [.int .i64 iO,.nil,.int .i64 jq,.int .i64 jr,.int .i64 jv,.int .i64 jd]),.p (.bool false)],[]):=by kernel_rfl
theorem tC (C:aF) (line':ByteArray)(kE kG kH kJ kK:Int)(aT:List PV)(iO:Int)(jB iK:Nat)(jq jr jv jd:Int)(G8:List PV):R tab C 44 [] [.lp [1,1,1,1,1,1,1,1,1,1,0,0]] (jZ line' kE kG kH kJ kK aT iO jB iK jq jr jv jd G8) =
 bif (Dt ((aT.length:Nat):Int) (0:Int)) then
  (C 80 [.ptr 100000 0 0] [.box [.p (.list false [.str] aT)]]).bind fun r1 =>
  (C 80 [.ptr 100000 0 0] [.box [.p (.list false [.str] (((r1.2.headD (.box [])).cs.getD 0 .undef).pv.toList))]]).bind fun r2 =>
  (C 80 [.ptr 100000 0 0] [.box [.p (.list false [.str] (((r2.2.headD (.box [])).cs.getD 0 .undef).pv.toList))]]).bind fun r3 =>
  bif (Qr (iK+1) 2147483648) then L tab C 44 [] [.lp [1,1,1,1,1,1,1,1,1,1,0,0]] (jZ line' kE kG kH kJ kK (((r3.2.headD (.box [])).cs.getD 0 .undef).pv.toList) iO 0 (iK+1) jq jr jv jd (((G8.drop jB).take iK)++([.agg [.int .i64 ((r1.1.headD .undef).pv.toInt),.int .i64 ((r2.1.headD .undef).pv.toInt),.int .i64 ((r3.1.headD .undef).pv.toInt)]]:List PV))) else none
 else
  (C 54 [.p (.agg [.int .i64 iO,.list true gU ((G8.drop jB).take iK),.int .i64 jq,.int .i64 jr,.int .i64 jv,.int .i64 jd])] []).bind fun r4 =>
  bif (r4.1.headD .undef).pv.toBool then
   (C 40 [.p (.agg [.int .i64 iO,.list true gU ((G8.drop jB).take iK),.int .i64 jq,.int .i64 jr,.int .i64 jv,.int .i64 jd])] []).bind fun r5 =>
   some ([.p (.agg [.int .i64 iO,.list true gU ((G8.drop jB).take iK),.int .i64 jq,.int .i64 jr,.int .i64 jv,.int .i64 jd]),.p (.bool (((r5.1.headD .undef).pv.toStr).toList==line'.toList))],[])
  else
   some ([.p (.agg [.int .i64 iO,.list true gU ((G8.drop jB).take iK),.int .i64 jq,.int .i64 jr,.int .i64 jv,.int .i64 jd]),.p (.bool false)],[]):=by kernel_rfl
theorem e47 (C:aF) (FV v_1 FX:Int):bn tab C 47 [.p (.agg [.int .i64 FV,.int .i64 v_1,.int .i64 FX])] [] =
 (C 61 [.p (.int .i64 16777216),.p (.list false [.int .i64] [.int .i64 FV,.int .i64 v_1,.int .i64 FX])] []).bind fun r1 =>
 some ([.p (.bool ((r1.1.headD .undef).pv.toBool))],[]):=by kernel_rfl
theorem e49 (C:aF) (a_0 a_1 a_2 OE b_1 OG:Int):bn tab C 49 [.p (.agg [.int .i64 a_0,.int .i64 a_1,.int .i64 a_2]),.p (.agg [.int .i64 OE,.int .i64 b_1,.int .i64 OG])] [] =
 (C 47 [.p (.agg [.int .i64 a_0,.int .i64 a_1,.int .i64 a_2])] []).bind fun r1 =>
 bif (!(r1.1.headD .undef).pv.toBool) then
  some ([.p (.agg [.int .i64 0,.int .i64 0,.int .i64 0]),.p (.int .i64 2)],[])
 else
  (C 47 [.p (.agg [.int .i64 OE,.int .i64 b_1,.int .i64 OG])] []).bind fun r2 =>
  bif (!(r2.1.headD .undef).pv.toBool) then
   some ([.p (.agg [.int .i64 0,.int .i64 0,.int .i64 0]),.p (.int .i64 2)],[])
  else
   (C 85 [.p (.agg [.int .i64 a_0,.int .i64 a_1,.int .i64 a_2]),.p (.agg [.int .i64 OE,.int .i64 b_1,.int .i64 OG]),.p (.fn 86 [])] []).bind fun r3 =>
   (C 84 [.p (.agg [.int .i64 (((r3.1.headD .undef).pv.cell 0).toInt),.int .i64 (((r3.1.headD .undef).pv.cell 1).toInt),.int .i64 (((r3.1.headD .undef).pv.cell 2).toInt)])] []).bind fun r4 =>
   some ([.p (.agg [.int .i64 (((r4.1.headD .undef).pv.cell 0).toInt),.int .i64 (((r4.1.headD .undef).pv.cell 1).toInt),.int .i64 (((r4.1.headD .undef).pv.cell 2).toInt)]),.p (.int .i64 ((r4.1.tail.headD .undef).pv.toInt))],[]):=by kernel_rfl
def Jr (xP i' V9 Wh Wi:Int):St:=⟨.undef::(.p (.int .i64 xP))::(.ptr 2 0 0)::.undef::.undef::(.p (.int .i64 i'))::List.replicate 17 .undef,[(2,.box [.p (.int .i64 V9),.p (.int .i64 Wh),.p (.int .i64 Wi)])]⟩
theorem e50 (C:aF) (FV v_1 FX most:Int):bn tab C 50 [.p (.agg [.int .i64 FV,.int .i64 v_1,.int .i64 FX]),.p (.int .i64 most)] [] =
 L tab C 50 [] [.lp [1,0,1,0]] (Jr most 0 FV v_1 FX):=by kernel_rfl
theorem Et (C:aF) (xP i' V9 Wh Wi:Int):R tab C 50 [] [.lp [1,0,1,0]] (Jr xP i' V9 Wh Wi) =
 bif (jo i' (3:Int)) then
  (C 87 [.p (.agg [.int .i64 V9,.int .i64 Wh,.int .i64 Wi]),.p (.int .i64 i')] []).bind fun r1 =>
  bif (Dt ((r1.1.headD .undef).pv.toInt) xP) then
   some ([.p (.bool false)],[])
  else
   (C 87 [.p (.agg [.int .i64 V9,.int .i64 Wh,.int .i64 Wi]),.p (.int .i64 i')] []).bind fun r2 =>
   bif (jo ((r2.1.headD .undef).pv.toInt) (IntKind.i64.wrap (0-xP))) then
    some ([.p (.bool false)],[])
   else
    L tab C 50 [] [.lp [1,0,1,0]] (Jr xP (IntKind.i64.wrap (i'+(1:Int))) V9 Wh Wi)
 else
  some ([.p (.bool true)],[]):=by kernel_rfl
theorem e52 (C:aF) (s:List PV):bn tab C 52 [.p (.list true gJ s),.p (.fn 53 [])] [] =
 (C 88 [.p (.list true gJ s),.p (.fn 53 [])] []).bind fun r1 =>
 some ([.p (.bool (wJ ((r1.1.headD .undef).pv.toInt) (0:Int)))],[]):=by kernel_rfl
theorem e53 (C:aF) (s_0:Int)(s_1:List PV)(s_2 zZ Aa oL:Int):bn tab C 53 [.p (.agg [.int .i64 s_0,.list true gU s_1,.int .i64 s_2,.int .i64 zZ,.int .i64 Aa,.int .i64 oL])] [] =
 (C 54 [.p (.agg [.int .i64 s_0,.list true gU s_1,.int .i64 s_2,.int .i64 zZ,.int .i64 Aa,.int .i64 oL])] []).bind fun r1 =>
 some ([.p (.bool (!(r1.1.headD .undef).pv.toBool))],[]):=by kernel_rfl
theorem e54 (C:aF) (s_0:Int)(s_1:List PV)(s_2 zZ Aa oL:Int):bn tab C 54 [.p (.agg [.int .i64 s_0,.list true gU s_1,.int .i64 s_2,.int .i64 zZ,.int .i64 Aa,.int .i64 oL])] [] =
 (C 73 [.p (.int .i64 s_0)] []).bind fun r1 =>
 bif (!(r1.1.tail.headD .undef).pv.toBool) then
  some ([.p (.bool false)],[])
 else
  bif (jo ((s_1.length:Nat):Int) (((r1.1.headD .undef).pv.cell 1).toInt)) then
   some ([.p (.bool false)],[])
  else
   bif (Dt ((s_1.length:Nat):Int) (((r1.1.headD .undef).pv.cell 2).toInt)) then
    some ([.p (.bool false)],[])
   else
    bif (oL != (0:Int)) then
     bif (!((r1.1.headD .undef).pv.cell 5).toBool) then
      some ([.p (.bool false)],[])
     else
      bif (jo oL (0:Int)) then
       some ([.p (.bool false)],[])
      else
       bif (Dt oL (2:Int)) then
        some ([.p (.bool false)],[])
       else
        (C 89 [.p (.bool (((r1.1.headD .undef).pv.cell 3).toBool)),.p (.int .i64 s_2),.p (.int .i64 500)] []).bind fun r2 =>
        bif (r2.1.headD .undef).pv.toBool then
         (C 89 [.p (.bool (((r1.1.headD .undef).pv.cell 4).toBool)),.p (.int .i64 zZ),.p (.int .i64 50)] []).bind fun r3 =>
         bif (r3.1.headD .undef).pv.toBool then
          (C 89 [.p (.bool (((r1.1.headD .undef).pv.cell 4).toBool)),.p (.int .i64 Aa),.p (.int .i64 10000)] []).bind fun r4 =>
          bif (r4.1.headD .undef).pv.toBool then
           (C 90 [.p (.list true gU s_1),.p (.fn 91 [])] []).bind fun r5 =>
           some ([.p (.bool (!(r5.1.headD .undef).pv.toBool))],[])
          else
           some ([.p (.bool false)],[])
         else
          some ([.p (.bool false)],[])
        else
         some ([.p (.bool false)],[])
    else
     (C 89 [.p (.bool (((r1.1.headD .undef).pv.cell 3).toBool)),.p (.int .i64 s_2),.p (.int .i64 500)] []).bind fun r6 =>
     bif (r6.1.headD .undef).pv.toBool then
      (C 89 [.p (.bool (((r1.1.headD .undef).pv.cell 4).toBool)),.p (.int .i64 zZ),.p (.int .i64 50)] []).bind fun r7 =>
      bif (r7.1.headD .undef).pv.toBool then
       (C 89 [.p (.bool (((r1.1.headD .undef).pv.cell 4).toBool)),.p (.int .i64 Aa),.p (.int .i64 10000)] []).bind fun r8 =>
       bif (r8.1.headD .undef).pv.toBool then
        (C 90 [.p (.list true gU s_1),.p (.fn 91 [])] []).bind fun r9 =>
        some ([.p (.bool (!(r9.1.headD .undef).pv.toBool))],[])
       else
        some ([.p (.bool false)],[])
      else
       some ([.p (.bool false)],[])
     else
      some ([.p (.bool false)],[]):=by kernel_rfl
theorem e58 (C:aF) (s:List PV):bn tab C 58 [.p (.list true gU s)] [] =
 some ([.p (.fn 92 [.ref [.list true gU s]])],[]):=by kernel_rfl
theorem e59 (C:aF) (s_0:Int)(s_1:List PV)(s_2 zZ Aa oL:Int):bn tab C 59 [.p (.agg [.int .i64 s_0,.list true gU s_1,.int .i64 s_2,.int .i64 zZ,.int .i64 Aa,.int .i64 oL])] [] =
 some ([.p (.fn 93 [.ref [.int .i64 s_0,.list true gU s_1,.int .i64 s_2,.int .i64 zZ,.int .i64 Aa,.int .i64 oL]])],[]):=by kernel_rfl
theorem e60 (C:aF) (s_0:Int)(s_1:List PV)(s_2 zZ Aa oL:Int):bn tab C 60 [.p (.agg [.int .i64 s_0,.list true gU s_1,.int .i64 s_2,.int .i64 zZ,.int .i64 Aa,.int .i64 oL])] [] =
 some ([.p (.fn 95 [.ref [.int .i64 s_0,.list true gU s_1,.int .i64 s_2,.int .i64 zZ,.int .i64 Aa,.int .i64 oL]])],[]):=by kernel_rfl
def Js (xP:Int)(qE:List PV)(CV Td:Int):St:=⟨(.p (.int .i64 xP))::.undef::.undef::.undef::.undef::.undef::.undef::(.p (.list false [.int .i64] qE))::(.p (.int .i64 CV))::(.p (.int .i64 Td))::List.replicate 13 .undef,[]⟩
theorem e61 (C:aF) (most:Int)(numbers:List PV):bn tab C 61 [.p (.int .i64 most),.p (.list false [.int .i64] numbers)] [] =
 L tab C 61 [] [.lp [1,0,1,0]] (Js most numbers ((numbers.length:Nat):Int) 0):=by kernel_rfl
theorem Eu (C:aF) (xP:Int)(qE:List PV)(CV Td:Int):R tab C 61 [] [.lp [1,0,1,0]] (Js xP qE CV Td) =
 bif (jo Td CV) then
  bif ((leI (0:Int) Td)&&(jo Td ((qE.length:Nat):Int))) then bif (jo (((qE.getD Td.toNat .nil).cell 0).toInt) (IntKind.i64.wrap (0-xP))) then
   some ([.p (.bool false)],[])
  else
   bif (Dt (((qE.getD Td.toNat .nil).cell 0).toInt) xP) then
    some ([.p (.bool false)],[])
   else
    L tab C 61 [] [.lp [1,0,1,0]] (Js xP qE CV (IntKind.i64.wrap (Td+(1:Int)))) else none
 else
  some ([.p (.bool true)],[]):=by kernel_rfl
theorem e65 (C:aF) (FV v_1 FX:Int):bn tab C 65 [.p (.agg [.int .i64 FV,.int .i64 v_1,.int .i64 FX])] [] =
 some ([.p (.agg [.int .i64 FV,.int .i64 v_1,.int .i64 FX])],[]):=by kernel_rfl
def Jt (s1' s2' Td:List PV)(iC jR:Int):St:=⟨(.p (.list false [.int .i64] s1'))::(.p (.list false [.int .i64] s2'))::.undef::.undef::.undef::.undef::.undef::.undef::.undef::(.p (.list false [.int .i64] Td))::(.p (.int .i64 iC))::(.p (.int .i64 jR))::List.replicate 24 .undef,[]⟩
theorem e66 (C:aF) (s1 s2:List PV):bn tab C 66 [.p (.list false [.int .i64] s1),.p (.list false [.int .i64] s2)] [] =
 L tab C 66 [] [.lp [1,0,1,0]] (Jt s1 s2 s1 ((s1.length:Nat):Int) 0):=by kernel_rfl
theorem Ew (C:aF) (s1' s2' Td:List PV)(iC jR:Int):R tab C 66 [] [.lp [1,0,1,0]] (Jt s1' s2' Td iC jR) =
 bif (jo jR iC) then
  bif ((leI (0:Int) jR)&&(jo jR ((Td.length:Nat):Int))) then bif (wJ jR ((s2'.length:Nat):Int)) then
   some ([.p (.int .i64 1)],[])
  else
   bif ((leI (0:Int) jR)&&(jo jR ((s2'.length:Nat):Int))) then(C 99 [.p (.int .i64 (((Td.getD jR.toNat .nil).cell 0).toInt)),.p (.int .i64 (((s2'.getD jR.toNat .nil).cell 0).toInt))] []).bind fun r1 =>
   bif ((r1.1.headD .undef).pv.toInt != (0:Int)) then
    some ([.p (.int .i64 ((r1.1.headD .undef).pv.toInt))],[])
   else
    L tab C 66 [] [.lp [1,0,1,0]] (Jt s1' s2' Td iC (IntKind.i64.wrap (jR+(1:Int)))) else none else none
 else
  bif (jo ((s1'.length:Nat):Int) ((s2'.length:Nat):Int)) then
   some ([.p (.int .i64 (-1))],[])
  else
   some ([.p (.int .i64 0)],[]):=by kernel_rfl
theorem e67 (C:aF) (n_ low high:Int):bn tab C 67 [.p (.int .i64 n_),.p (.int .i64 low),.p (.int .i64 high)] [] =
 bif (leI low n_) then
  some ([.p (.bool (leI n_ high))],[])
 else
  some ([.p (.bool false)],[]):=by kernel_rfl
theorem e70 (C:aF) (FV v_1 FX:Int):bn tab C 70 [.p (.agg [.int .i64 FV,.int .i64 v_1,.int .i64 FX])] [] =
 (C 50 [.p (.agg [.int .i64 FV,.int .i64 v_1,.int .i64 FX]),.p (.int .i64 1048576)] []).bind fun r1 =>
 some ([.p (.bool ((r1.1.headD .undef).pv.toBool))],[]):=by kernel_rfl
theorem e73 (C:aF) (kind:Int):bn tab C 73 [.p (.int .i64 kind)] [] =
 bif (kind==(1:Int)) then
  some ([.p (.agg [.str ⟨#[100,111,116,115]⟩,.int .i64 1,.int .i64 200,.bool false,.bool false,.bool false]),.p (.bool true)],[])
 else
  bif (kind==(2:Int)) then
   some ([.p (.agg [.str ⟨#[108,105,110,101]⟩,.int .i64 2,.int .i64 200,.bool true,.bool false,.bool false]),.p (.bool true)],[])
  else
   bif (kind==(3:Int)) then
    some ([.p (.agg [.str ⟨#[108,111,111,112]⟩,.int .i64 3,.int .i64 200,.bool true,.bool false,.bool false]),.p (.bool true)],[])
   else
    bif (kind==(4:Int)) then
     some ([.p (.agg [.str ⟨#[114,105,110,103]⟩,.int .i64 1,.int .i64 1,.bool false,.bool true,.bool true]),.p (.bool true)],[])
    else
     bif (kind==(5:Int)) then
      some ([.p (.agg [.str ⟨#[115,112,104,101,114,101]⟩,.int .i64 1,.int .i64 1,.bool false,.bool true,.bool false]),.p (.bool true)],[])
     else
      some ([.p (.agg [.str ⟨#[]⟩,.int .i64 0,.int .i64 0,.bool false,.bool false,.bool false]),.p (.bool false)],[]):=by kernel_rfl
def OH (En:List PV)(Nh qE:Int)(pK lG:Nat)(Ad:List PV):St:=⟨.undef::(.ptr 100000 0 0)::.undef::.undef::.undef::(.p (.list false [.int .i64] En))::(.p (.int .i64 Nh))::(.p (.int .i64 qE))::List.replicate 9 .undef,[(100000,.box [.slice 99999 1 pK lG]),(99999,.arr false [.str] Ad)]⟩
theorem e74 (C:aF) (l:List PV)(Wj Wn:Nat)(Wp:List PV):bn tab C 74 [.p (.list false [.int .i64] l),.ptr 100000 0 0] [.box [.slice 99999 1 Wj Wn],.arr false [.str] Wp] =
 L tab C 74 [.box [.slice 99999 1 Wj Wn],.arr false [.str] Wp] [.lp [1,0]] (OH l ((l.length:Nat):Int) 0 Wj Wn Wp):=by kernel_rfl
theorem Yh (C:aF) (Wj Wn:Nat)(Wp En:List PV)(Nh qE:Int)(pK lG:Nat)(Ad:List PV):R tab C 74 [.box [.slice 99999 1 Wj Wn],.arr false [.str] Wp] [.lp [1,0]] (OH En Nh qE pK lG Ad) =
 bif (jo qE Nh) then
  bif ((leI (0:Int) qE)&&(jo qE ((En.length:Nat):Int))) then(C 75 [.p (.int .i64 (((En.getD qE.toNat .nil).cell 0).toInt))] []).bind fun r1 =>
  bif (Qr (lG+1) 2147483648) then L tab C 74 [.box [.slice 99999 1 Wj Wn],.arr false [.str] Wp] [.lp [1,0]] (OH En Nh (IntKind.i64.wrap (qE+(1:Int))) 0 (lG+1) (((Ad.drop pK).take lG)++([.str ((r1.1.headD .undef).pv.toStr)]:List PV))) else none else none
 else
  some ([],[.box [.slice 99999 1 pK lG],.arr false [.str] Ad]):=by kernel_rfl
theorem e80 (C:aF) (v0:List PV):bn tab C 80 [.ptr 100000 0 0] [.box [.p (.list false [.str] v0)]] =
 bif (((v0.length:Nat):Int)==(0:Int)) then
  some ([.p (.int .i64 0)],[.box [.p (.list false [.str] v0)]])
 else
  bif (jo (0:Int) ((v0.length:Nat):Int)) then(C 81 [.p (.str (((v0.getD 0 .nil).cell 0).toStr))] []).bind fun r1 =>
  bif ((leI (1:Int) ((v0.length:Nat):Int))&&((leI ((v0.length:Nat):Int) ((v0.length:Nat):Int))&&(leI ((v0.length:Nat):Int) ((v0.length:Nat):Int)))) then some ([.p (.int .i64 ((r1.1.headD .undef).pv.toInt))],[.box [.p (.list false [.str] ((v0.drop 1).take ((((v0.length:Nat):Int)-(1:Int)).toNat)))]]) else none else none:=by kernel_rfl
theorem e84 (C:aF) (FV v_1 FX:Int):bn tab C 84 [.p (.agg [.int .i64 FV,.int .i64 v_1,.int .i64 FX])] [] =
 (C 47 [.p (.agg [.int .i64 FV,.int .i64 v_1,.int .i64 FX])] []).bind fun r1 =>
 bif (!(r1.1.headD .undef).pv.toBool) then
  some ([.p (.agg [.int .i64 0,.int .i64 0,.int .i64 0]),.p (.int .i64 3)],[])
 else
  some ([.p (.agg [.int .i64 FV,.int .i64 v_1,.int .i64 FX]),.p (.int .i64 0)],[]):=by kernel_rfl
theorem aiM (C:aF) (a_0 a_1 a_2 OE b_1 OG:Int):bn tab C 85 [.p (.agg [.int .i64 a_0,.int .i64 a_1,.int .i64 a_2]),.p (.agg [.int .i64 OE,.int .i64 b_1,.int .i64 OG]),.p (.fn 86 [])] [] =
 (C 86 [.p (.int .i64 a_0),.p (.int .i64 OE)] []).bind fun r1 =>
 (C 86 [.p (.int .i64 a_1),.p (.int .i64 b_1)] []).bind fun r2 =>
 (C 86 [.p (.int .i64 a_2),.p (.int .i64 OG)] []).bind fun r3 =>
 some ([.p (.agg [.int .i64 ((r1.1.headD .undef).pv.toInt),.int .i64 ((r2.1.headD .undef).pv.toInt),.int .i64 ((r3.1.headD .undef).pv.toInt)])],[]):=by kernel_rfl
theorem aiN (C:aF) (a_0 a_1 a_2 OE b_1 OG aal aam:Int):bn tab C 85 [.p (.agg [.int .i64 a_0,.int .i64 a_1,.int .i64 a_2]),.p (.agg [.int .i64 OE,.int .i64 b_1,.int .i64 OG]),.p (.fn 109 [.ref [.int .i64 aal],.ref [.int .i64 aam]])] [] =
 (C 109 [.p (.int .i64 a_0),.p (.int .i64 OE),.p (.ref [.int .i64 aal]),.p (.ref [.int .i64 aam])] []).bind fun r1 =>
 (C 109 [.p (.int .i64 a_1),.p (.int .i64 b_1),.p (.ref [.int .i64 aal]),.p (.ref [.int .i64 aam])] []).bind fun r2 =>
 (C 109 [.p (.int .i64 a_2),.p (.int .i64 OG),.p (.ref [.int .i64 aal]),.p (.ref [.int .i64 aam])] []).bind fun r3 =>
 some ([.p (.agg [.int .i64 ((r1.1.headD .undef).pv.toInt),.int .i64 ((r2.1.headD .undef).pv.toInt),.int .i64 ((r3.1.headD .undef).pv.toInt)])],[]):=by kernel_rfl
theorem e86 (C:aF) (x y:Int):bn tab C 86 [.p (.int .i64 x),.p (.int .i64 y)] [] =
 some ([.p (.int .i64 (IntKind.i64.wrap (x+y)))],[]):=by kernel_rfl
theorem e87 (C:aF) (FV v_1 FX i:Int):bn tab C 87 [.p (.agg [.int .i64 FV,.int .i64 v_1,.int .i64 FX]),.p (.int .i64 i)] [] =
 bif (i==(0:Int)) then
  some ([.p (.int .i64 FV)],[])
 else
  bif (i==(1:Int)) then
   some ([.p (.int .i64 v_1)],[])
  else
   some ([.p (.int .i64 FX)],[]):=by kernel_rfl
def Ey (s':List PV)(qE CV:Int):St:=⟨(.p (.list true gJ s'))::(.p (.fn 53 []))::.undef::.undef::.undef::.undef::.undef::(.p (.int .i64 qE))::(.p (.int .i64 CV))::List.replicate 10 .undef,[]⟩
theorem e88 (C:aF) (s:List PV):bn tab C 88 [.p (.list true gJ s),.p (.fn 53 [])] [] =
 L tab C 88 [] [.lp [1,0,1,0]] (Ey s ((s.length:Nat):Int) 0):=by kernel_rfl
theorem Ju (C:aF) (s':List PV)(qE CV:Int):R tab C 88 [] [.lp [1,0,1,0]] (Ey s' qE CV) =
 bif (jo CV qE) then
  bif ((leI (0:Int) CV)&&(jo CV ((s'.length:Nat):Int))) then(C 53 [.p (.agg [.int .i64 (((s'.getD CV.toNat .nil).cell 0).toInt),.list true gU (((s'.getD CV.toNat .nil).cell 1).toList),.int .i64 (((s'.getD CV.toNat .nil).cell 2).toInt),.int .i64 (((s'.getD CV.toNat .nil).cell 3).toInt),.int .i64 (((s'.getD CV.toNat .nil).cell 4).toInt),.int .i64 (((s'.getD CV.toNat .nil).cell 5).toInt)])] []).bind fun r1 =>
  bif (r1.1.headD .undef).pv.toBool then
   some ([.p (.int .i64 CV)],[])
  else
   L tab C 88 [] [.lp [1,0,1,0]] (Ey s' qE (IntKind.i64.wrap (CV+(1:Int)))) else none
 else
  some ([.p (.int .i64 (-1))],[]):=by kernel_rfl
theorem e89 (C:aF) (has:Bool)(n_ most:Int):bn tab C 89 [.p (.bool has),.p (.int .i64 n_),.p (.int .i64 most)] [] =
 bif has then
  bif (wJ n_ (1:Int)) then
   some ([.p (.bool (leI n_ most))],[])
  else
   some ([.p (.bool false)],[])
 else
  some ([.p (.bool (n_==(0:Int)))],[]):=by kernel_rfl
theorem aiO (C:aF) (s:List PV):bn tab C 90 [.p (.list true gU s),.p (.fn 91 [])] [] =
 (C 108 [.p (.list true gU s),.p (.fn 91 [])] []).bind fun r1 =>
 some ([.p (.bool (wJ ((r1.1.headD .undef).pv.toInt) (0:Int)))],[]):=by kernel_rfl
theorem e91 (C:aF) (FV v_1 FX:Int):bn tab C 91 [.p (.agg [.int .i64 FV,.int .i64 v_1,.int .i64 FX])] [] =
 (C 31 [.p (.agg [.int .i64 FV,.int .i64 v_1,.int .i64 FX])] []).bind fun r1 =>
 some ([.p (.bool (!(r1.1.headD .undef).pv.toBool))],[]):=by kernel_rfl
def OI (En:List PV)(Nh qE:Int)(ay:List PV):St:=⟨(.sJ)::.undef::.undef::.undef::.undef::(.p (.list true gU En))::(.p (.int .i64 Nh))::(.p (.int .i64 qE))::List.replicate 8 .undef,[(100000,.log true ay)]⟩
theorem e92 (C:aF) (c0:List PV):bn tab C 92 [.sJ,.p (.ref [.list true gU c0])] [.log true []] =
 L tab C 92 [.log true []] [.lp [1,0]] (OI c0 ((c0.length:Nat):Int) 0 []):=by kernel_rfl
theorem Yi (C:aF) (En:List PV)(Nh qE:Int)(ay:List PV):R tab C 92 [.log true []] [.lp [1,0]] (OI En Nh qE ay) =
 bif (jo qE Nh) then
  bif ((leI (0:Int) qE)&&(jo qE ((En.length:Nat):Int))) then fork (some ([],[.log false (ay++([.agg [.agg [.int .i64 (((En.getD qE.toNat .nil).cell 0).toInt),.int .i64 (((En.getD qE.toNat .nil).cell 1).toInt),.int .i64 (((En.getD qE.toNat .nil).cell 2).toInt)]]]:List PV))])) <|
  L tab C 92 [.log true []] [.lp [1,0]] (OI En Nh (IntKind.i64.wrap (qE+(1:Int))) (ay++([.agg [.agg [.int .i64 (((En.getD qE.toNat .nil).cell 0).toInt),.int .i64 (((En.getD qE.toNat .nil).cell 1).toInt),.int .i64 (((En.getD qE.toNat .nil).cell 2).toInt)]]]:List PV))) else none
 else
  some ([],[.log true ay]):=by kernel_rfl
def Ae (dG:Int)(bI:List PV)(dw dH bC dA:Int)(iC:List PV)(jR dJ:Int)(ay:List PV):St:=⟨(.sJ)::(.p (.ref [.int .i64 dG,.list true gU bI,.int .i64 dw,.int .i64 dH,.int .i64 bC,.int .i64 dA]))::.undef::.undef::.undef::.undef::.undef::.undef::.undef::.undef::(.p (.list true gU iC))::(.p (.int .i64 jR))::(.p (.int .i64 dJ))::List.replicate 46 .undef,[(100000,.log true ay)]⟩
def kL (dG:Int)(bI:List PV)(dw dH bC dA:Int)(iC:List PV)(jR dJ Jv FY:Int)(ay:List PV)(Yj Yk Yl Ym Yn Yo:Int):St:=⟨(.sJ)::(.p (.ref [.int .i64 dG,.list true gU bI,.int .i64 dw,.int .i64 dH,.int .i64 bC,.int .i64 dA]))::.undef::.undef::(.ptr 4 0 0)::(.ptr 5 0 0)::.undef::.undef::.undef::.undef::(.p (.list true gU iC))::(.p (.int .i64 jR))::(.p (.int .i64 dJ))::.undef::.undef::.undef::.undef::.undef::.undef::.undef::.undef::.undef::.undef::.undef::.undef::.undef::.undef::.undef::.undef::.undef::.undef::.undef::.undef::.undef::.undef::.undef::.undef::.undef::.undef::.undef::(.p (.int .i64 Jv))::(.p (.int .i64 FY))::List.replicate 17 .undef,[(100000,.log true ay),(4,.box [.p (.int .i64 Yj),.p (.int .i64 Yk),.p (.int .i64 Yl)]),(5,.box [.p (.int .i64 Ym),.p (.int .i64 Yn),.p (.int .i64 Yo)])]⟩
def ku (dG:Int)(bI:List PV)(dw dH bC dA Yp Yq Yr Yt Yu Yv:Int)(iC:List PV)(jR dJ Jv FY:Int)(ay:List PV):St:=⟨(.sJ)::(.p (.ref [.int .i64 dG,.list true gU bI,.int .i64 dw,.int .i64 dH,.int .i64 bC,.int .i64 dA]))::.undef::.undef::(.p (.ref [.int .i64 Yp,.int .i64 Yq,.int .i64 Yr]))::(.p (.ref [.int .i64 Yt,.int .i64 Yu,.int .i64 Yv]))::.undef::.undef::.undef::.undef::(.p (.list true gU iC))::(.p (.int .i64 jR))::(.p (.int .i64 dJ))::.undef::.undef::.undef::.undef::.undef::.undef::.undef::.undef::.undef::.undef::.undef::.undef::.undef::.undef::.undef::.undef::.undef::.undef::.undef::.undef::.undef::.undef::.undef::.undef::.undef::.undef::.undef::(.p (.int .i64 Jv))::(.p (.int .i64 FY))::List.replicate 17 .undef,[(100000,.log true ay)]⟩
theorem e93 (C:aF) (Tj:Int)(Dv:List PV)(Wq Jw Ws Wu:Int):bn tab C 93 [.sJ,.p (.ref [.int .i64 Tj,.list true gU Dv,.int .i64 Wq,.int .i64 Jw,.int .i64 Ws,.int .i64 Wu])] [.log true []] =
 L tab C 93 [.log true []] [.lp [1,0]] (Ae Tj Dv Wq Jw Ws Wu Dv ((Dv.length:Nat):Int) 0 []):=by kernel_rfl
theorem Tn (C:aF) (dG:Int)(bI:List PV)(dw dH bC dA:Int)(iC:List PV)(jR dJ:Int)(ay:List PV):R tab C 93 [.log true []] [.lp [1,0]] (Ae dG bI dw dH bC dA iC jR dJ ay) =
 bif (jo dJ jR) then
  bif ((leI (0:Int) dJ)&&(jo dJ ((iC.length:Nat):Int))) then bif (dG==(2:Int)) then
   bif ((IntKind.i64.wrap (dJ+(1:Int)))==((bI.length:Nat):Int)) then
    some ([],[.log true ay])
   else
    bif (!(eqI ((bI.length:Nat):Int) (0:Int))) then bif ((leI (0:Int) ((IntKind.i64.wrap (dJ+(1:Int))).tmod ((bI.length:Nat):Int)))&&(jo ((IntKind.i64.wrap (dJ+(1:Int))).tmod ((bI.length:Nat):Int)) ((bI.length:Nat):Int))) then L tab C 93 [.log true []] [.lp [1,0],.lp [1,1,0,0,1,1,1,1,0]] (kL dG bI dw dH bC dA iC jR dJ (IntKind.i64.wrap (dw+(1:Int))) 0 ay (((iC.getD dJ.toNat .nil).cell 0).toInt) (((iC.getD dJ.toNat .nil).cell 1).toInt) (((iC.getD dJ.toNat .nil).cell 2).toInt) (((bI.getD (((IntKind.i64.wrap (dJ+(1:Int))).tmod ((bI.length:Nat):Int)).toNat) .nil).cell 0).toInt) (((bI.getD (((IntKind.i64.wrap (dJ+(1:Int))).tmod ((bI.length:Nat):Int)).toNat) .nil).cell 1).toInt) (((bI.getD (((IntKind.i64.wrap (dJ+(1:Int))).tmod ((bI.length:Nat):Int)).toNat) .nil).cell 2).toInt)) else none else none
  else
   bif (!(eqI ((bI.length:Nat):Int) (0:Int))) then bif ((leI (0:Int) ((IntKind.i64.wrap (dJ+(1:Int))).tmod ((bI.length:Nat):Int)))&&(jo ((IntKind.i64.wrap (dJ+(1:Int))).tmod ((bI.length:Nat):Int)) ((bI.length:Nat):Int))) then L tab C 93 [.log true []] [.lp [1,0],.lp [1,1,0,0,1,1,1,1,0]] (kL dG bI dw dH bC dA iC jR dJ (IntKind.i64.wrap (dw+(1:Int))) 0 ay (((iC.getD dJ.toNat .nil).cell 0).toInt) (((iC.getD dJ.toNat .nil).cell 1).toInt) (((iC.getD dJ.toNat .nil).cell 2).toInt) (((bI.getD (((IntKind.i64.wrap (dJ+(1:Int))).tmod ((bI.length:Nat):Int)).toNat) .nil).cell 0).toInt) (((bI.getD (((IntKind.i64.wrap (dJ+(1:Int))).tmod ((bI.length:Nat):Int)).toNat) .nil).cell 1).toInt) (((bI.getD (((IntKind.i64.wrap (dJ+(1:Int))).tmod ((bI.length:Nat):Int)).toNat) .nil).cell 2).toInt)) else none else none else none
 else
  some ([],[.log true ay]):=by kernel_rfl
theorem FZ (C:aF) (dG:Int)(bI:List PV)(dw dH bC dA:Int)(iC:List PV)(jR dJ Jv FY:Int)(ay:List PV)(Yj Yk Yl Ym Yn Yo:Int):R tab C 93 [.log true []] [.lp [1,0],.lp [1,1,0,0,1,1,1,1,0]] (kL dG bI dw dH bC dA iC jR dJ Jv FY ay Yj Yk Yl Ym Yn Yo) =
 bif (jo FY Jv) then
  (C 94 [.p (.agg [.int .i64 Yj,.int .i64 Yk,.int .i64 Yl]),.p (.agg [.int .i64 Ym,.int .i64 Yn,.int .i64 Yo]),.p (.int .i64 FY),.p (.int .i64 dw)] []).bind fun r1 =>
  fork (some ([],[.log false (ay++([.agg [.agg [.int .i64 (((r1.1.headD .undef).pv.cell 0).toInt),.int .i64 (((r1.1.headD .undef).pv.cell 1).toInt),.int .i64 (((r1.1.headD .undef).pv.cell 2).toInt)]]]:List PV))])) <|
  L tab C 93 [.log true []] [.lp [1,0],.lp [1,1,0,0,1,1,1,1,0]] (ku dG bI dw dH bC dA Yj Yk Yl Ym Yn Yo iC jR dJ Jv (IntKind.i64.wrap (FY+(1:Int))) (ay++([.agg [.agg [.int .i64 (((r1.1.headD .undef).pv.cell 0).toInt),.int .i64 (((r1.1.headD .undef).pv.cell 1).toInt),.int .i64 (((r1.1.headD .undef).pv.cell 2).toInt)]]]:List PV)))
 else
  L tab C 93 [.log true []] [.lp [1,0]] (Ae dG bI dw dH bC dA iC jR (IntKind.i64.wrap (dJ+(1:Int))) ay):=by kernel_rfl
theorem tH (C:aF) (dG:Int)(bI:List PV)(dw dH bC dA Yp Yq Yr Yt Yu Yv:Int)(iC:List PV)(jR dJ Jv FY:Int)(ay:List PV):R tab C 93 [.log true []] [.lp [1,0],.lp [1,1,0,0,1,1,1,1,0]] (ku dG bI dw dH bC dA Yp Yq Yr Yt Yu Yv iC jR dJ Jv FY ay) =
 bif (jo FY Jv) then
  (C 94 [.p (.agg [.int .i64 Yp,.int .i64 Yq,.int .i64 Yr]),.p (.agg [.int .i64 Yt,.int .i64 Yu,.int .i64 Yv]),.p (.int .i64 FY),.p (.int .i64 dw)] []).bind fun r1 =>
  fork (some ([],[.log false (ay++([.agg [.agg [.int .i64 (((r1.1.headD .undef).pv.cell 0).toInt),.int .i64 (((r1.1.headD .undef).pv.cell 1).toInt),.int .i64 (((r1.1.headD .undef).pv.cell 2).toInt)]]]:List PV))])) <|
  L tab C 93 [.log true []] [.lp [1,0],.lp [1,1,0,0,1,1,1,1,0]] (ku dG bI dw dH bC dA Yp Yq Yr Yt Yu Yv iC jR dJ Jv (IntKind.i64.wrap (FY+(1:Int))) (ay++([.agg [.agg [.int .i64 (((r1.1.headD .undef).pv.cell 0).toInt),.int .i64 (((r1.1.headD .undef).pv.cell 1).toInt),.int .i64 (((r1.1.headD .undef).pv.cell 2).toInt)]]]:List PV)))
 else
  L tab C 93 [.log true []] [.lp [1,0]] (Ae dG bI dw dH bC dA iC jR (IntKind.i64.wrap (dJ+(1:Int))) ay):=by kernel_rfl
theorem e94 (C:aF) (a_0 a_1 a_2 OE b_1 OG num den:Int):bn tab C 94 [.p (.agg [.int .i64 a_0,.int .i64 a_1,.int .i64 a_2]),.p (.agg [.int .i64 OE,.int .i64 b_1,.int .i64 OG]),.p (.int .i64 num),.p (.int .i64 den)] [] =
 (C 47 [.p (.agg [.int .i64 a_0,.int .i64 a_1,.int .i64 a_2])] []).bind fun r1 =>
 bif (!(r1.1.headD .undef).pv.toBool) then
  some ([.p (.agg [.int .i64 0,.int .i64 0,.int .i64 0]),.p (.int .i64 2)],[])
 else
  (C 47 [.p (.agg [.int .i64 OE,.int .i64 b_1,.int .i64 OG])] []).bind fun r2 =>
  bif (!(r2.1.headD .undef).pv.toBool) then
   some ([.p (.agg [.int .i64 0,.int .i64 0,.int .i64 0]),.p (.int .i64 2)],[])
  else
   bif (jo den (1:Int)) then
    some ([.p (.agg [.int .i64 0,.int .i64 0,.int .i64 0]),.p (.int .i64 2)],[])
   else
    bif (Dt den (4294967296:Int)) then
     some ([.p (.agg [.int .i64 0,.int .i64 0,.int .i64 0]),.p (.int .i64 2)],[])
    else
     bif (jo num (0:Int)) then
      some ([.p (.agg [.int .i64 0,.int .i64 0,.int .i64 0]),.p (.int .i64 2)],[])
     else
      bif (Dt num den) then
       some ([.p (.agg [.int .i64 0,.int .i64 0,.int .i64 0]),.p (.int .i64 2)],[])
      else
       (C 85 [.p (.agg [.int .i64 a_0,.int .i64 a_1,.int .i64 a_2]),.p (.agg [.int .i64 OE,.int .i64 b_1,.int .i64 OG]),.p (.fn 109 [.ref [.int .i64 num],.ref [.int .i64 den]])] []).bind fun r3 =>
       some ([.p (.agg [.int .i64 (((r3.1.headD .undef).pv.cell 0).toInt),.int .i64 (((r3.1.headD .undef).pv.cell 1).toInt),.int .i64 (((r3.1.headD .undef).pv.cell 2).toInt)]),.p (.int .i64 0)],[]):=by kernel_rfl
def uw (dG:Int)(bI:List PV)(dw dH bC dA pO depth' i':Int)(ay:List PV)(rF rG rH:Int):St:=⟨(.sJ)::(.p (.ref [.int .i64 dG,.list true gU bI,.int .i64 dw,.int .i64 dH,.int .i64 bC,.int .i64 dA]))::.undef::(.p (.int .i64 pO))::(.ptr 4 0 0)::(.p (.int .i64 depth'))::(.p (.int .i64 i'))::List.replicate 114 .undef,[(100000,.log true ay),(4,.box [.p (.int .i64 rF),.p (.int .i64 rG),.p (.int .i64 rH)])]⟩
def lQ (dG:Int)(bI:List PV)(dw dH bC dA pO depth' i' j':Int)(ay:List PV)(rF rG rH:Int):St:=⟨(.sJ)::(.p (.ref [.int .i64 dG,.list true gU bI,.int .i64 dw,.int .i64 dH,.int .i64 bC,.int .i64 dA]))::.undef::(.p (.int .i64 pO))::(.ptr 4 0 0)::(.p (.int .i64 depth'))::(.p (.int .i64 i'))::(.p (.int .i64 j'))::List.replicate 113 .undef,[(100000,.log true ay),(4,.box [.p (.int .i64 rF),.p (.int .i64 rG),.p (.int .i64 rH)])]⟩
def ig (dG:Int)(bI:List PV)(dw dH bC dA pO depth' i' j' k':Int)(ay:List PV)(rF rG rH:Int):St:=⟨(.sJ)::(.p (.ref [.int .i64 dG,.list true gU bI,.int .i64 dw,.int .i64 dH,.int .i64 bC,.int .i64 dA]))::.undef::(.p (.int .i64 pO))::(.ptr 4 0 0)::(.p (.int .i64 depth'))::(.p (.int .i64 i'))::(.p (.int .i64 j'))::(.p (.int .i64 k'))::List.replicate 112 .undef,[(100000,.log true ay),(4,.box [.p (.int .i64 rF),.p (.int .i64 rG),.p (.int .i64 rH)])]⟩
def bD (dG:Int)(bI:List PV)(dw dH bC dA pO rJ rM rO depth' i' j' k':Int)(ay:List PV):St:=⟨(.sJ)::(.p (.ref [.int .i64 dG,.list true gU bI,.int .i64 dw,.int .i64 dH,.int .i64 bC,.int .i64 dA]))::.undef::(.p (.int .i64 pO))::(.p (.ref [.int .i64 rJ,.int .i64 rM,.int .i64 rO]))::(.p (.int .i64 depth'))::(.p (.int .i64 i'))::(.p (.int .i64 j'))::(.p (.int .i64 k'))::List.replicate 112 .undef,[(100000,.log true ay)]⟩
def iq (dG:Int)(bI:List PV)(dw dH bC dA pO rJ rM rO depth' i' j':Int)(ay:List PV):St:=⟨(.sJ)::(.p (.ref [.int .i64 dG,.list true gU bI,.int .i64 dw,.int .i64 dH,.int .i64 bC,.int .i64 dA]))::.undef::(.p (.int .i64 pO))::(.p (.ref [.int .i64 rJ,.int .i64 rM,.int .i64 rO]))::(.p (.int .i64 depth'))::(.p (.int .i64 i'))::(.p (.int .i64 j'))::List.replicate 113 .undef,[(100000,.log true ay)]⟩
def pR (dG:Int)(bI:List PV)(dw dH bC dA pO rJ rM rO depth' i':Int)(ay:List PV):St:=⟨(.sJ)::(.p (.ref [.int .i64 dG,.list true gU bI,.int .i64 dw,.int .i64 dH,.int .i64 bC,.int .i64 dA]))::.undef::(.p (.int .i64 pO))::(.p (.ref [.int .i64 rJ,.int .i64 rM,.int .i64 rO]))::(.p (.int .i64 depth'))::(.p (.int .i64 i'))::List.replicate 114 .undef,[(100000,.log true ay)]⟩
theorem e95 (C:aF) (Tj:Int)(Dv:List PV)(Wq Jw Ws Wu:Int):bn tab C 95 [.sJ,.p (.ref [.int .i64 Tj,.list true gU Dv,.int .i64 Wq,.int .i64 Jw,.int .i64 Ws,.int .i64 Wu])] [.log true []] =
 bif (jo (0:Int) ((Dv.length:Nat):Int)) then bif (Tj==(5:Int)) then
  L tab C 95 [.log true []] [.lp [1,1,1,1,0]] (uw Tj Dv Wq Jw Ws Wu Jw (IntKind.i64.wrap (Jw+(1:Int))) (IntKind.i64.wrap ((IntKind.i64.wrap (0-Jw))-(1:Int))) [] (((Dv.getD 0 .nil).cell 0).toInt) (((Dv.getD 0 .nil).cell 1).toInt) (((Dv.getD 0 .nil).cell 2).toInt))
 else
  L tab C 95 [.log true []] [.lp [1,1,1,1,0]] (uw Tj Dv Wq Jw Ws Wu Jw 0 (IntKind.i64.wrap ((IntKind.i64.wrap (0-Jw))-(1:Int))) [] (((Dv.getD 0 .nil).cell 0).toInt) (((Dv.getD 0 .nil).cell 1).toInt) (((Dv.getD 0 .nil).cell 2).toInt)) else none:=by kernel_rfl
theorem Nl (C:aF) (dG:Int)(bI:List PV)(dw dH bC dA pO depth' i':Int)(ay:List PV)(rF rG rH:Int):R tab C 95 [.log true []] [.lp [1,1,1,1,0]] (uw dG bI dw dH bC dA pO depth' i' ay rF rG rH) =
 bif (leI i' (IntKind.i64.wrap (pO+(1:Int)))) then
  L tab C 95 [.log true []] [.lp [1,1,1,1,0],.lp [1,0,0,1,0]] (lQ dG bI dw dH bC dA pO depth' i' (IntKind.i64.wrap ((IntKind.i64.wrap (0-pO))-(1:Int))) ay rF rG rH)
 else
  some ([],[.log true ay]):=by kernel_rfl
theorem zy (C:aF) (dG:Int)(bI:List PV)(dw dH bC dA pO depth' i' j':Int)(ay:List PV)(rF rG rH:Int):R tab C 95 [.log true []] [.lp [1,1,1,1,0],.lp [1,0,0,1,0]] (lQ dG bI dw dH bC dA pO depth' i' j' ay rF rG rH) =
 bif (leI j' (IntKind.i64.wrap (pO+(1:Int)))) then
  L tab C 95 [.log true []] [.lp [1,1,1,1,0],.lp [1,0,0,1,0],.lp [1,0,0,1,0]] (ig dG bI dw dH bC dA pO depth' i' j' (IntKind.i64.wrap (0-depth')) ay rF rG rH)
 else
  L tab C 95 [.log true []] [.lp [1,1,1,1,0]] (uw dG bI dw dH bC dA pO depth' (IntKind.i64.wrap (i'+(1:Int))) ay rF rG rH):=by kernel_rfl
theorem qF (C:aF) (dG:Int)(bI:List PV)(dw dH bC dA pO depth' i' j' k':Int)(ay:List PV)(rF rG rH:Int):R tab C 95 [.log true []] [.lp [1,1,1,1,0],.lp [1,0,0,1,0],.lp [1,0,0,1,0]] (ig dG bI dw dH bC dA pO depth' i' j' k' ay rF rG rH) =
 bif (leI k' depth') then
  bif (jo (IntKind.i64.wrap ((IntKind.i64.wrap ((IntKind.i64.wrap (i'*i'))+(IntKind.i64.wrap (j'*j'))))+(IntKind.i64.wrap (k'*k')))) (IntKind.i64.wrap ((IntKind.i64.wrap (pO*pO))-pO))) then
   L tab C 95 [.log true []] [.lp [1,1,1,1,0],.lp [1,0,0,1,0],.lp [1,0,0,1,0]] (ig dG bI dw dH bC dA pO depth' i' j' (IntKind.i64.wrap (k'+(1:Int))) ay rF rG rH)
  else
   bif (Dt (IntKind.i64.wrap ((IntKind.i64.wrap ((IntKind.i64.wrap (i'*i'))+(IntKind.i64.wrap (j'*j'))))+(IntKind.i64.wrap (k'*k')))) (IntKind.i64.wrap ((IntKind.i64.wrap (pO*pO))+pO))) then
    L tab C 95 [.log true []] [.lp [1,1,1,1,0],.lp [1,0,0,1,0],.lp [1,0,0,1,0]] (ig dG bI dw dH bC dA pO depth' i' j' (IntKind.i64.wrap (k'+(1:Int))) ay rF rG rH)
   else
    bif (dA==(1:Int)) then
     fork (some ([],[.log false (ay++([.agg [.agg [.int .i64 (IntKind.i64.wrap (rF+(IntKind.i64.wrap (i'*bC)))),.int .i64 (IntKind.i64.wrap (rG+(0:Int))),.int .i64 (IntKind.i64.wrap (rH+(IntKind.i64.wrap (j'*bC))))]]]:List PV))])) <|
     L tab C 95 [.log true []] [.lp [1,1,1,1,0],.lp [1,0,0,1,0],.lp [1,0,0,1,0]] (bD dG bI dw dH bC dA pO rF rG rH depth' i' j' (IntKind.i64.wrap (k'+(1:Int))) (ay++([.agg [.agg [.int .i64 (IntKind.i64.wrap (rF+(IntKind.i64.wrap (i'*bC)))),.int .i64 (IntKind.i64.wrap (rG+(0:Int))),.int .i64 (IntKind.i64.wrap (rH+(IntKind.i64.wrap (j'*bC))))]]]:List PV)))
    else
     bif (dA==(2:Int)) then
      fork (some ([],[.log false (ay++([.agg [.agg [.int .i64 (IntKind.i64.wrap (rF+(0:Int))),.int .i64 (IntKind.i64.wrap (rG+(IntKind.i64.wrap (i'*bC)))),.int .i64 (IntKind.i64.wrap (rH+(IntKind.i64.wrap (j'*bC))))]]]:List PV))])) <|
      L tab C 95 [.log true []] [.lp [1,1,1,1,0],.lp [1,0,0,1,0],.lp [1,0,0,1,0]] (bD dG bI dw dH bC dA pO rF rG rH depth' i' j' (IntKind.i64.wrap (k'+(1:Int))) (ay++([.agg [.agg [.int .i64 (IntKind.i64.wrap (rF+(0:Int))),.int .i64 (IntKind.i64.wrap (rG+(IntKind.i64.wrap (i'*bC)))),.int .i64 (IntKind.i64.wrap (rH+(IntKind.i64.wrap (j'*bC))))]]]:List PV)))
     else
      fork (some ([],[.log false (ay++([.agg [.agg [.int .i64 (IntKind.i64.wrap (rF+(IntKind.i64.wrap (i'*bC)))),.int .i64 (IntKind.i64.wrap (rG+(IntKind.i64.wrap (j'*bC)))),.int .i64 (IntKind.i64.wrap (rH+(IntKind.i64.wrap (k'*bC))))]]]:List PV))])) <|
      L tab C 95 [.log true []] [.lp [1,1,1,1,0],.lp [1,0,0,1,0],.lp [1,0,0,1,0]] (bD dG bI dw dH bC dA pO rF rG rH depth' i' j' (IntKind.i64.wrap (k'+(1:Int))) (ay++([.agg [.agg [.int .i64 (IntKind.i64.wrap (rF+(IntKind.i64.wrap (i'*bC)))),.int .i64 (IntKind.i64.wrap (rG+(IntKind.i64.wrap (j'*bC)))),.int .i64 (IntKind.i64.wrap (rH+(IntKind.i64.wrap (k'*bC))))]]]:List PV)))
 else
  L tab C 95 [.log true []] [.lp [1,1,1,1,0],.lp [1,0,0,1,0]] (lQ dG bI dw dH bC dA pO depth' i' (IntKind.i64.wrap (j'+(1:Int))) ay rF rG rH):=by kernel_rfl
theorem nS (C:aF) (dG:Int)(bI:List PV)(dw dH bC dA pO rJ rM rO depth' i' j' k':Int)(ay:List PV):R tab C 95 [.log true []] [.lp [1,1,1,1,0],.lp [1,0,0,1,0],.lp [1,0,0,1,0]] (bD dG bI dw dH bC dA pO rJ rM rO depth' i' j' k' ay) =
 bif (leI k' depth') then
  bif (jo (IntKind.i64.wrap ((IntKind.i64.wrap ((IntKind.i64.wrap (i'*i'))+(IntKind.i64.wrap (j'*j'))))+(IntKind.i64.wrap (k'*k')))) (IntKind.i64.wrap ((IntKind.i64.wrap (pO*pO))-pO))) then
   L tab C 95 [.log true []] [.lp [1,1,1,1,0],.lp [1,0,0,1,0],.lp [1,0,0,1,0]] (bD dG bI dw dH bC dA pO rJ rM rO depth' i' j' (IntKind.i64.wrap (k'+(1:Int))) ay)
  else
   bif (Dt (IntKind.i64.wrap ((IntKind.i64.wrap ((IntKind.i64.wrap (i'*i'))+(IntKind.i64.wrap (j'*j'))))+(IntKind.i64.wrap (k'*k')))) (IntKind.i64.wrap ((IntKind.i64.wrap (pO*pO))+pO))) then
    L tab C 95 [.log true []] [.lp [1,1,1,1,0],.lp [1,0,0,1,0],.lp [1,0,0,1,0]] (bD dG bI dw dH bC dA pO rJ rM rO depth' i' j' (IntKind.i64.wrap (k'+(1:Int))) ay)
   else
    bif (dA==(1:Int)) then
     fork (some ([],[.log false (ay++([.agg [.agg [.int .i64 (IntKind.i64.wrap (rJ+(IntKind.i64.wrap (i'*bC)))),.int .i64 (IntKind.i64.wrap (rM+(0:Int))),.int .i64 (IntKind.i64.wrap (rO+(IntKind.i64.wrap (j'*bC))))]]]:List PV))])) <|
     L tab C 95 [.log true []] [.lp [1,1,1,1,0],.lp [1,0,0,1,0],.lp [1,0,0,1,0]] (bD dG bI dw dH bC dA pO rJ rM rO depth' i' j' (IntKind.i64.wrap (k'+(1:Int))) (ay++([.agg [.agg [.int .i64 (IntKind.i64.wrap (rJ+(IntKind.i64.wrap (i'*bC)))),.int .i64 (IntKind.i64.wrap (rM+(0:Int))),.int .i64 (IntKind.i64.wrap (rO+(IntKind.i64.wrap (j'*bC))))]]]:List PV)))
    else
     bif (dA==(2:Int)) then
      fork (some ([],[.log false (ay++([.agg [.agg [.int .i64 (IntKind.i64.wrap (rJ+(0:Int))),.int .i64 (IntKind.i64.wrap (rM+(IntKind.i64.wrap (i'*bC)))),.int .i64 (IntKind.i64.wrap (rO+(IntKind.i64.wrap (j'*bC))))]]]:List PV))])) <|
      L tab C 95 [.log true []] [.lp [1,1,1,1,0],.lp [1,0,0,1,0],.lp [1,0,0,1,0]] (bD dG bI dw dH bC dA pO rJ rM rO depth' i' j' (IntKind.i64.wrap (k'+(1:Int))) (ay++([.agg [.agg [.int .i64 (IntKind.i64.wrap (rJ+(0:Int))),.int .i64 (IntKind.i64.wrap (rM+(IntKind.i64.wrap (i'*bC)))),.int .i64 (IntKind.i64.wrap (rO+(IntKind.i64.wrap (j'*bC))))]]]:List PV)))
     else
      fork (some ([],[.log false (ay++([.agg [.agg [.int .i64 (IntKind.i64.wrap (rJ+(IntKind.i64.wrap (i'*bC)))),.int .i64 (IntKind.i64.wrap (rM+(IntKind.i64.wrap (j'*bC)))),.int .i64 (IntKind.i64.wrap (rO+(IntKind.i64.wrap (k'*bC))))]]]:List PV))])) <|
      L tab C 95 [.log true []] [.lp [1,1,1,1,0],.lp [1,0,0,1,0],.lp [1,0,0,1,0]] (bD dG bI dw dH bC dA pO rJ rM rO depth' i' j' (IntKind.i64.wrap (k'+(1:Int))) (ay++([.agg [.agg [.int .i64 (IntKind.i64.wrap (rJ+(IntKind.i64.wrap (i'*bC)))),.int .i64 (IntKind.i64.wrap (rM+(IntKind.i64.wrap (j'*bC)))),.int .i64 (IntKind.i64.wrap (rO+(IntKind.i64.wrap (k'*bC))))]]]:List PV)))
 else
  L tab C 95 [.log true []] [.lp [1,1,1,1,0],.lp [1,0,0,1,0]] (iq dG bI dw dH bC dA pO rJ rM rO depth' i' (IntKind.i64.wrap (j'+(1:Int))) ay):=by kernel_rfl
theorem uT (C:aF) (dG:Int)(bI:List PV)(dw dH bC dA pO rJ rM rO depth' i' j':Int)(ay:List PV):R tab C 95 [.log true []] [.lp [1,1,1,1,0],.lp [1,0,0,1,0]] (iq dG bI dw dH bC dA pO rJ rM rO depth' i' j' ay) =
 bif (leI j' (IntKind.i64.wrap (pO+(1:Int)))) then
  L tab C 95 [.log true []] [.lp [1,1,1,1,0],.lp [1,0,0,1,0],.lp [1,0,0,1,0]] (bD dG bI dw dH bC dA pO rJ rM rO depth' i' j' (IntKind.i64.wrap (0-depth')) ay)
 else
  L tab C 95 [.log true []] [.lp [1,1,1,1,0]] (pR dG bI dw dH bC dA pO rJ rM rO depth' (IntKind.i64.wrap (i'+(1:Int))) ay):=by kernel_rfl
theorem Ez (C:aF) (dG:Int)(bI:List PV)(dw dH bC dA pO rJ rM rO depth' i':Int)(ay:List PV):R tab C 95 [.log true []] [.lp [1,1,1,1,0]] (pR dG bI dw dH bC dA pO rJ rM rO depth' i' ay) =
 bif (leI i' (IntKind.i64.wrap (pO+(1:Int)))) then
  L tab C 95 [.log true []] [.lp [1,1,1,1,0],.lp [1,0,0,1,0]] (iq dG bI dw dH bC dA pO rJ rM rO depth' i' (IntKind.i64.wrap ((IntKind.i64.wrap (0-pO))-(1:Int))) ay)
 else
  some ([],[.log true ay]):=by kernel_rfl
theorem e99 (C:aF) (x y:Int):bn tab C 99 [.p (.int .i64 x),.p (.int .i64 y)] [] =
 (C 120 [.p (.int .i64 x)] []).bind fun r1 =>
 (C 120 [.p (.int .i64 y)] []).bind fun r2 =>
 bif (r1.1.headD .undef).pv.toBool then
  bif (r2.1.headD .undef).pv.toBool then
   some ([.p (.int .i64 0)],[])
  else
   some ([.p (.int .i64 (-1))],[])
 else
  bif (r2.1.headD .undef).pv.toBool then
   some ([.p (.int .i64 1)],[])
  else
   bif (jo x y) then
    some ([.p (.int .i64 (-1))],[])
   else
    bif (Dt x y) then
     some ([.p (.int .i64 1)],[])
    else
     some ([.p (.int .i64 0)],[]):=by kernel_rfl
def yN (s':List PV)(qE CV:Int):St:=⟨(.p (.list true gU s'))::(.p (.fn 91 []))::.undef::.undef::.undef::.undef::.undef::(.p (.int .i64 qE))::(.p (.int .i64 CV))::List.replicate 10 .undef,[]⟩
theorem ad3 (C:aF) (s:List PV):bn tab C 108 [.p (.list true gU s),.p (.fn 91 [])] [] =
 L tab C 108 [] [.lp [1,0,1,0]] (yN s ((s.length:Nat):Int) 0):=by kernel_rfl
theorem Dw (C:aF) (s':List PV)(qE CV:Int):R tab C 108 [] [.lp [1,0,1,0]] (yN s' qE CV) =
 bif (jo CV qE) then
  bif ((leI (0:Int) CV)&&(jo CV ((s'.length:Nat):Int))) then(C 91 [.p (.agg [.int .i64 (((s'.getD CV.toNat .nil).cell 0).toInt),.int .i64 (((s'.getD CV.toNat .nil).cell 1).toInt),.int .i64 (((s'.getD CV.toNat .nil).cell 2).toInt)])] []).bind fun r1 =>
  bif (r1.1.headD .undef).pv.toBool then
   some ([.p (.int .i64 CV)],[])
  else
   L tab C 108 [] [.lp [1,0,1,0]] (yN s' qE (IntKind.i64.wrap (CV+(1:Int)))) else none
 else
  some ([.p (.int .i64 (-1))],[]):=by kernel_rfl
theorem e109 (C:aF) (x y c0 c1:Int):bn tab C 109 [.p (.int .i64 x),.p (.int .i64 y),.p (.ref [.int .i64 c0]),.p (.ref [.int .i64 c1])] [] =
 bif (!(eqI (IntKind.i64.wrap ((2:Int)*c1)) (0:Int))) then bif (!(eqI (IntKind.i64.wrap ((2:Int)*c1)) (0:Int))) then bif (jo ((IntKind.i64.wrap ((IntKind.i64.wrap ((IntKind.i64.wrap ((2:Int)*(IntKind.i64.wrap (y-x))))*c0))+c1)).tmod (IntKind.i64.wrap ((2:Int)*c1))) (0:Int)) then
  some ([.p (.int .i64 (IntKind.i64.wrap (x+(IntKind.i64.wrap ((IntKind.i64.wrap ((IntKind.i64.wrap ((IntKind.i64.wrap ((IntKind.i64.wrap ((2:Int)*(IntKind.i64.wrap (y-x))))*c0))+c1)).tdiv (IntKind.i64.wrap ((2:Int)*c1))))-(1:Int))))))],[])
 else
  some ([.p (.int .i64 (IntKind.i64.wrap (x+(IntKind.i64.wrap ((IntKind.i64.wrap ((IntKind.i64.wrap ((IntKind.i64.wrap ((2:Int)*(IntKind.i64.wrap (y-x))))*c0))+c1)).tdiv (IntKind.i64.wrap ((2:Int)*c1)))))))],[]) else none else none:=by kernel_rfl
theorem e120 (C:aF) (x:Int):bn tab C 120 [.p (.int .i64 x)] [] =
 some ([.p (.bool (x != x))],[]):=by kernel_rfl
end Go.Skm.Fig
