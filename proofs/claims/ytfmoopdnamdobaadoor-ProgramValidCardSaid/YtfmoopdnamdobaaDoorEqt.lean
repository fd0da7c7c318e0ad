import Derived.Test.YtfmoopdnamdobaaDoorSkmF
import Derived.Test.YtfmoopdnamdobaaDoorTab
import Derived.KernelRfl
set_option maxRecDepth 100000
namespace Go.Skm.Prg
open Go Go.Skm
theorem e31 (C:aA) (a_0 a_1 a_2 Fq b_1 Fv:List PV):bf tab C 31 [.p (.agg [.list false [.str] a_0,.list true bZ a_1,.list true dD a_2]),.p (.agg [.list false [.str] Fq,.list true bZ b_1,.list true dD Fv])] [] =
 (C 49 [.p (.list false [.str] a_0),.p (.list false [.str] Fq)] []).bind fun r1 =>
 bif (r1.1.headD .undef).pv.toBool then
  (C 50 [.p (.list true bZ a_1),.p (.list true bZ b_1)] []).bind fun r2 =>
  bif (r2.1.headD .undef).pv.toBool then
   (C 51 [.p (.list true dD a_2),.p (.list true dD Fv),.p (.fn 52 [])] []).bind fun r3 =>
   some ([.p (.bool ((r3.1.headD .undef).pv.toBool))],[])
  else
   some ([.p (.bool false)],[])
 else
  some ([.p (.bool false)],[]):=by kernel_rfl
def yK (YF wz:Int)(bQ aH:List PV)(zx Ej:Nat)(Iy:List PV):St:=⟨.undef::(.ptr 1 0 0)::(.ptr 2 0 0)::Uq 15 ((.p (.int .i64 YF))::(.p (.int .i64 wz))::List.replicate 16 .undef),[(1,.box [.p (.list false [.str] bQ),.p (.list true bZ aH),.slice 12 3 zx Ej]),(2,.box [.p (.nil),.p (.nil),.p (.nil)]),(12,.arr true dD Iy)]⟩
theorem e32 (C:aA) (p_0 p_1 iE:List PV):bf tab C 32 [.p (.agg [.list false [.str] p_0,.list true bZ p_1,.list true dD iE])] [] =
 (C 54 [.p (.list false [.str] p_0)] []).bind fun r1 =>
 (C 55 [.p (.list true bZ p_1)] []).bind fun r2 =>
 (C 56 [.p (.list true dD iE)] []).bind fun r3 =>
 L tab C 32 [] [.lp [1,1,0,1,0]] (yK (((r3.1.headD .undef).ak.length:Nat):Int) 0 ((r1.1.headD .undef).pv.toList) ((r2.1.headD .undef).pv.toList) 0 ((r3.1.headD .undef).ak.length) ((r3.1.headD .undef).ak)):=by kernel_rfl
theorem Oi (C:aA) (YF wz:Int)(bQ aH:List PV)(zx Ej:Nat)(Iy:List PV):R tab C 32 [] [.lp [1,1,0,1,0]] (yK YF wz bQ aH zx Ej Iy) =
 bif (eY wz YF) then
  bif ((leI (0:Int) wz)&&(eY wz (Ej:Int))) then(C 45 [.p (.list true kR (((Iy.getD (zx+wz.toNat) .nil).cell 2).toList))] []).bind fun r1 =>
  bif ((leI (0:Int) wz)&&(eY wz (Ej:Int))) then L tab C 32 [] [.lp [1,1,0,1,0]] (yK YF (IntKind.i64.wrap (wz+(1:Int))) bQ aH zx Ej (Iy.set (zx+wz.toNat) (PV.agg [.str (((Iy.getD (zx+wz.toNat) .nil).cell 0).toStr),.int .i64 (((Iy.getD (zx+wz.toNat) .nil).cell 1).toInt),.list true kR ((r1.1.headD .undef).pv.toList)]))) else none else none
 else
  some ([.agg [.p (.list false [.str] bQ),.p (.list true bZ aH),.fresh true dD ((Iy.drop zx).take Ej)]],[]):=by kernel_rfl
theorem e33 (C:aA) :bf tab C 33 [] [] =
 (C 9 [.p (.int .i64 0),.p (.int .i64 0),.p (.int .i64 0)] []).bind fun r1 =>
 (C 9 [.p (.int .i64 500),.p (.int .i64 0),.p (.int .i64 0)] []).bind fun r2 =>
 (C 9 [.p (.int .i64 0),.p (.int .i64 0),.p (.int .i64 300)] []).bind fun r3 =>
 (C 9 [.p (.int .i64 500),.p (.int .i64 0),.p (.int .i64 300)] []).bind fun r4 =>
 some ([.p (.agg [.list false [.str] [.str ⟨#[97]⟩,.str ⟨#[98]⟩],.list true bZ [.agg [.int .i64 (((r1.1.headD .undef).pv.cell 0).toInt),.int .i64 (((r1.1.headD .undef).pv.cell 1).toInt),.int .i64 (((r1.1.headD .undef).pv.cell 2).toInt)],.agg [.int .i64 (((r2.1.headD .undef).pv.cell 0).toInt),.int .i64 (((r2.1.headD .undef).pv.cell 1).toInt),.int .i64 (((r2.1.headD .undef).pv.cell 2).toInt)]],.list true dD [.agg [.str ⟨#[117,112]⟩,.int .i64 5000,.list true kR [.agg [.int .i64 (((r3.1.headD .undef).pv.cell 0).toInt),.int .i64 (((r3.1.headD .undef).pv.cell 1).toInt),.int .i64 (((r3.1.headD .undef).pv.cell 2).toInt),.int .i64 0,.int .i64 4000,.int .i64 0],.agg [.int .i64 (((r4.1.headD .undef).pv.cell 0).toInt),.int .i64 (((r4.1.headD .undef).pv.cell 1).toInt),.int .i64 (((r4.1.headD .undef).pv.cell 2).toInt),.int .i64 1000,.int .i64 4000,.int .i64 0]]]]])],[]):=by kernel_rfl
theorem e34 (C:aA) (p_0 p_1 iE:List PV):bf tab C 34 [.p (.agg [.list false [.str] p_0,.list true bZ p_1,.list true dD iE])] [] =
 (C 10 [.p (.agg [.list false [.str] p_0,.list true bZ p_1,.list true dD iE])] []).bind fun r1 =>
 bif (!(r1.1.headD .undef).pv.toBool) then
  some ([.p (.str ⟨#[]⟩),.p (.int .i64 2)],[])
 else
  (C 57 [.p (.agg [.list false [.str] p_0,.list true bZ p_1,.list true dD iE])] []).bind fun r2 =>
  some ([.p (.str ((r2.1.headD .undef).pv.toStr)),.p (.int .i64 0)],[]):=by kernel_rfl
theorem e35 (C:aA) :bf tab C 35 [] [] =
 some ([.p (.str ⟨#[97,105,114,99,114,97,102,116,32,97,32,48,32,48,32,48,10,97,105,114,99,114,97,102,116,32,98,32,53,48,48,32,48,32,48,10,97,99,116,32,117,112,32,53,48,48,48,10,109,111,118,101,32,48,32,48,32,51,48,48,32,48,32,52,48,48,48,32,48,10,109,111,118,101,32,53,48,48,32,48,32,51,48,48,32,49,48,48,48,32,52,48,48,48,32,48,10]⟩)],[]):=by kernel_rfl
def rC (t27':List PV)(YG dQ:Int)(bQ aH bG:List PV) (AZ:List (PV × PV)) (jC:List (PV × PV)):St:=⟨.undef::(.ptr 1 0 0)::.undef::.undef::(.mref 24)::(.mref 25)::Uq 21 ((.p (.list false [.str] t27'))::(.p (.int .i64 YG))::(.p (.int .i64 dQ))::List.replicate 41 .undef),[(1,.box [.p (.list false [.str] bQ),.p (.list true bZ aH),.p (.list true dD bG)]),(24,.mp 98 AZ),(25,.mp 99 jC)]⟩
theorem e36 (C:aA) (p_0 p_1 iE:List PV):bf tab C 36 [.p (.agg [.list false [.str] p_0,.list true bZ p_1,.list true dD iE])] [] =
 bif (eY ((p_0.length:Nat):Int) (1:Int)) then
  some ([.p (.bool false)],[])
 else
  bif (AU ((p_0.length:Nat):Int) (64:Int)) then
   some ([.p (.bool false)],[])
  else
   bif (((p_1.length:Nat):Int) != ((p_0.length:Nat):Int)) then
    some ([.p (.bool false)],[])
   else
    L tab C 36 [] [.lp [1,1,1,1,0,1,0]] (rC p_0 ((p_0.length:Nat):Int) 0 p_0 p_1 iE ([]:List (PV × PV)) ([]:List (PV × PV))):=by kernel_rfl
theorem Iz (C:aA) (t27':List PV)(YG dQ:Int)(bQ aH bG:List PV) (AZ:List (PV × PV)) (jC:List (PV × PV)):R tab C 36 [] [.lp [1,1,1,1,0,1,0]] (rC t27' YG dQ bQ aH bG AZ jC) =
 bif (eY dQ YG) then
  bif ((leI (0:Int) dQ)&&(eY dQ ((t27'.length:Nat):Int))) then(C 37 [.p (.str (((t27'.getD dQ.toNat .nil).cell 0).toStr))] []).bind fun r1 =>
  bif (!(r1.1.headD .undef).pv.toBool) then
   some ([.p (.bool false)],[])
  else
   bif (gX tab 9 (PV.str (((t27'.getD dQ.toNat .nil).cell 0).toStr)) AZ).isSome then bif (kindOk (.bool) (kL (PV.bool false) AZ ((gX tab 9 (PV.str (((t27'.getD dQ.toNat .nil).cell 0).toStr)) AZ).getD none))) then bif (kL (PV.bool false) AZ ((gX tab 9 (PV.str (((t27'.getD dQ.toNat .nil).cell 0).toStr)) AZ).getD none)).toBool then
    some ([.p (.bool false)],[])
   else
    bif ((leI (0:Int) dQ)&&(eY dQ ((aH.length:Nat):Int))) then(C 58 [.p (.agg [.int .i64 (((aH.getD dQ.toNat .nil).cell 0).toInt),.int .i64 (((aH.getD dQ.toNat .nil).cell 1).toInt),.int .i64 (((aH.getD dQ.toNat .nil).cell 2).toInt)])] []).bind fun r2 =>
    bif (!(r2.1.headD .undef).pv.toBool) then
     some ([.p (.bool false)],[])
    else
     bif ((leI (0:Int) dQ)&&(eY dQ ((aH.length:Nat):Int))) then bif (gX tab 31 (PV.agg [.int .i64 (((aH.getD dQ.toNat .nil).cell 0).toInt),.int .i64 (((aH.getD dQ.toNat .nil).cell 1).toInt),.int .i64 (((aH.getD dQ.toNat .nil).cell 2).toInt)]) jC).isSome then bif (kindOk (.bool) (kL (PV.bool false) jC ((gX tab 31 (PV.agg [.int .i64 (((aH.getD dQ.toNat .nil).cell 0).toInt),.int .i64 (((aH.getD dQ.toNat .nil).cell 1).toInt),.int .i64 (((aH.getD dQ.toNat .nil).cell 2).toInt)]) jC).getD none))) then bif (kL (PV.bool false) jC ((gX tab 31 (PV.agg [.int .i64 (((aH.getD dQ.toNat .nil).cell 0).toInt),.int .i64 (((aH.getD dQ.toNat .nil).cell 1).toInt),.int .i64 (((aH.getD dQ.toNat .nil).cell 2).toInt)]) jC).getD none)).toBool then
      some ([.p (.bool false)],[])
     else
      bif ((leI (0:Int) dQ)&&(eY dQ ((aH.length:Nat):Int))) then bif (bK tab 9 (PV.str (((t27'.getD dQ.toNat .nil).cell 0).toStr)) AZ).isSome then bif (dX tab 31 [.int .i64 (((aH.getD dQ.toNat .nil).cell 0).toInt),.int .i64 (((aH.getD dQ.toNat .nil).cell 1).toInt),.int .i64 (((aH.getD dQ.toNat .nil).cell 2).toInt)] jC).isSome then bif ((leI (0:Int) (((((dX tab 31 [.int .i64 (((aH.getD dQ.toNat .nil).cell 0).toInt),.int .i64 (((aH.getD dQ.toNat .nil).cell 1).toInt),.int .i64 (((aH.getD dQ.toNat .nil).cell 2).toInt)] jC).getD none).getD jC.length:Nat)):Int))&&(ltN ((((((dX tab 31 [.int .i64 (((aH.getD dQ.toNat .nil).cell 0).toInt),.int .i64 (((aH.getD dQ.toNat .nil).cell 1).toInt),.int .i64 (((aH.getD dQ.toNat .nil).cell 2).toInt)] jC).getD none).getD jC.length:Nat)):Int).toNat) (dw jC (PV.agg [.int .i64 (((aH.getD dQ.toNat .nil).cell 0).toInt),.int .i64 (((aH.getD dQ.toNat .nil).cell 1).toInt),.int .i64 (((aH.getD dQ.toNat .nil).cell 2).toInt)]) (kL (PV.bool false) jC ((dX tab 31 [.int .i64 (((aH.getD dQ.toNat .nil).cell 0).toInt),.int .i64 (((aH.getD dQ.toNat .nil).cell 1).toInt),.int .i64 (((aH.getD dQ.toNat .nil).cell 2).toInt)] jC).getD none)) ((dX tab 31 [.int .i64 (((aH.getD dQ.toNat .nil).cell 0).toInt),.int .i64 (((aH.getD dQ.toNat .nil).cell 1).toInt),.int .i64 (((aH.getD dQ.toNat .nil).cell 2).toInt)] jC).getD none)).length)) then L tab C 36 [] [.lp [1,1,1,1,0,1,0]] (rC t27' YG (IntKind.i64.wrap (dQ+(1:Int))) bQ aH bG (dw AZ (PV.str (((t27'.getD dQ.toNat .nil).cell 0).toStr)) (PV.bool true) ((bK tab 9 (PV.str (((t27'.getD dQ.toNat .nil).cell 0).toStr)) AZ).getD none)) ((dw jC (PV.agg [.int .i64 (((aH.getD dQ.toNat .nil).cell 0).toInt),.int .i64 (((aH.getD dQ.toNat .nil).cell 1).toInt),.int .i64 (((aH.getD dQ.toNat .nil).cell 2).toInt)]) (kL (PV.bool false) jC ((dX tab 31 [.int .i64 (((aH.getD dQ.toNat .nil).cell 0).toInt),.int .i64 (((aH.getD dQ.toNat .nil).cell 1).toInt),.int .i64 (((aH.getD dQ.toNat .nil).cell 2).toInt)] jC).getD none)) ((dX tab 31 [.int .i64 (((aH.getD dQ.toNat .nil).cell 0).toInt),.int .i64 (((aH.getD dQ.toNat .nil).cell 1).toInt),.int .i64 (((aH.getD dQ.toNat .nil).cell 2).toInt)] jC).getD none)).set ((((((dX tab 31 [.int .i64 (((aH.getD dQ.toNat .nil).cell 0).toInt),.int .i64 (((aH.getD dQ.toNat .nil).cell 1).toInt),.int .i64 (((aH.getD dQ.toNat .nil).cell 2).toInt)] jC).getD none).getD jC.length:Nat)):Int).toNat) (((dw jC (PV.agg [.int .i64 (((aH.getD dQ.toNat .nil).cell 0).toInt),.int .i64 (((aH.getD dQ.toNat .nil).cell 1).toInt),.int .i64 (((aH.getD dQ.toNat .nil).cell 2).toInt)]) (kL (PV.bool false) jC ((dX tab 31 [.int .i64 (((aH.getD dQ.toNat .nil).cell 0).toInt),.int .i64 (((aH.getD dQ.toNat .nil).cell 1).toInt),.int .i64 (((aH.getD dQ.toNat .nil).cell 2).toInt)] jC).getD none)) ((dX tab 31 [.int .i64 (((aH.getD dQ.toNat .nil).cell 0).toInt),.int .i64 (((aH.getD dQ.toNat .nil).cell 1).toInt),.int .i64 (((aH.getD dQ.toNat .nil).cell 2).toInt)] jC).getD none)).getD ((((((dX tab 31 [.int .i64 (((aH.getD dQ.toNat .nil).cell 0).toInt),.int .i64 (((aH.getD dQ.toNat .nil).cell 1).toInt),.int .i64 (((aH.getD dQ.toNat .nil).cell 2).toInt)] jC).getD none).getD jC.length:Nat)):Int).toNat) (.nil,.nil)).1,(PV.bool true)))) else none else none else none else none else none else none else none else none else none else none else none
 else
  some ([.p (.bool true)],[]):=by kernel_rfl
def dG (s':ByteArray)(G9 lq:Int):St:=⟨(.p (.str s'))::Uq 5 ((.p (.int .i64 G9))::(.p (.int .i64 lq))::List.replicate 48 .undef),[]⟩
theorem e37 (C:aA) (s:ByteArray):bf tab C 37 [.p (.str s)] [] =
 L tab C 37 [] [.lp [1,0,1,0]] (dG s ((s.size:Nat):Int) 0):=by kernel_rfl
theorem Rt (C:aA) (s':ByteArray)(G9 lq:Int):R tab C 37 [] [.lp [1,0,1,0]] (dG s' G9 lq) =
 bif (eY lq G9) then
  bif ((leI (0:Int) lq)&&(eY lq (s'.size:Int))) then bif (Nz ((s'.data.getD lq.toNat 0).toNat:Int) (97:Int)) then
   bif (leI ((s'.data.getD lq.toNat 0).toNat:Int) (122:Int)) then
    L tab C 37 [] [.lp [1,0,1,0]] (dG s' G9 (IntKind.i64.wrap (lq+(1:Int))))
   else
    bif (Nz ((s'.data.getD lq.toNat 0).toNat:Int) (65:Int)) then
     bif (leI ((s'.data.getD lq.toNat 0).toNat:Int) (90:Int)) then
      L tab C 37 [] [.lp [1,0,1,0]] (dG s' G9 (IntKind.i64.wrap (lq+(1:Int))))
     else
      bif (AU lq (0:Int)) then
       bif (Nz ((s'.data.getD lq.toNat 0).toNat:Int) (48:Int)) then
        bif (leI ((s'.data.getD lq.toNat 0).toNat:Int) (57:Int)) then
         L tab C 37 [] [.lp [1,0,1,0]] (dG s' G9 (IntKind.i64.wrap (lq+(1:Int))))
        else
         bif (((s'.data.getD lq.toNat 0).toNat:Int)==(45:Int)) then
          L tab C 37 [] [.lp [1,0,1,0]] (dG s' G9 (IntKind.i64.wrap (lq+(1:Int))))
         else
          bif (((s'.data.getD lq.toNat 0).toNat:Int)==(95:Int)) then
           L tab C 37 [] [.lp [1,0,1,0]] (dG s' G9 (IntKind.i64.wrap (lq+(1:Int))))
          else
           some ([.p (.bool false)],[])
       else
        bif (((s'.data.getD lq.toNat 0).toNat:Int)==(45:Int)) then
         L tab C 37 [] [.lp [1,0,1,0]] (dG s' G9 (IntKind.i64.wrap (lq+(1:Int))))
        else
         bif (((s'.data.getD lq.toNat 0).toNat:Int)==(95:Int)) then
          L tab C 37 [] [.lp [1,0,1,0]] (dG s' G9 (IntKind.i64.wrap (lq+(1:Int))))
         else
          some ([.p (.bool false)],[])
      else
       some ([.p (.bool false)],[])
    else
     bif (AU lq (0:Int)) then
      bif (Nz ((s'.data.getD lq.toNat 0).toNat:Int) (48:Int)) then
       bif (leI ((s'.data.getD lq.toNat 0).toNat:Int) (57:Int)) then
        L tab C 37 [] [.lp [1,0,1,0]] (dG s' G9 (IntKind.i64.wrap (lq+(1:Int))))
       else
        bif (((s'.data.getD lq.toNat 0).toNat:Int)==(45:Int)) then
         L tab C 37 [] [.lp [1,0,1,0]] (dG s' G9 (IntKind.i64.wrap (lq+(1:Int))))
        else
         bif (((s'.data.getD lq.toNat 0).toNat:Int)==(95:Int)) then
          L tab C 37 [] [.lp [1,0,1,0]] (dG s' G9 (IntKind.i64.wrap (lq+(1:Int))))
         else
          some ([.p (.bool false)],[])
      else
       bif (((s'.data.getD lq.toNat 0).toNat:Int)==(45:Int)) then
        L tab C 37 [] [.lp [1,0,1,0]] (dG s' G9 (IntKind.i64.wrap (lq+(1:Int))))
       else
        bif (((s'.data.getD lq.toNat 0).toNat:Int)==(95:Int)) then
         L tab C 37 [] [.lp [1,0,1,0]] (dG s' G9 (IntKind.i64.wrap (lq+(1:Int))))
        else
         some ([.p (.bool false)],[])
     else
      some ([.p (.bool false)],[])
  else
   bif (Nz ((s'.data.getD lq.toNat 0).toNat:Int) (65:Int)) then
    bif (leI ((s'.data.getD lq.toNat 0).toNat:Int) (90:Int)) then
     L tab C 37 [] [.lp [1,0,1,0]] (dG s' G9 (IntKind.i64.wrap (lq+(1:Int))))
    else
     bif (AU lq (0:Int)) then
      bif (Nz ((s'.data.getD lq.toNat 0).toNat:Int) (48:Int)) then
       bif (leI ((s'.data.getD lq.toNat 0).toNat:Int) (57:Int)) then
        L tab C 37 [] [.lp [1,0,1,0]] (dG s' G9 (IntKind.i64.wrap (lq+(1:Int))))
       else
        bif (((s'.data.getD lq.toNat 0).toNat:Int)==(45:Int)) then
         L tab C 37 [] [.lp [1,0,1,0]] (dG s' G9 (IntKind.i64.wrap (lq+(1:Int))))
        else
         bif (((s'.data.getD lq.toNat 0).toNat:Int)==(95:Int)) then
          L tab C 37 [] [.lp [1,0,1,0]] (dG s' G9 (IntKind.i64.wrap (lq+(1:Int))))
         else
          some ([.p (.bool false)],[])
      else
       bif (((s'.data.getD lq.toNat 0).toNat:Int)==(45:Int)) then
        L tab C 37 [] [.lp [1,0,1,0]] (dG s' G9 (IntKind.i64.wrap (lq+(1:Int))))
       else
        bif (((s'.data.getD lq.toNat 0).toNat:Int)==(95:Int)) then
         L tab C 37 [] [.lp [1,0,1,0]] (dG s' G9 (IntKind.i64.wrap (lq+(1:Int))))
        else
         some ([.p (.bool false)],[])
     else
      some ([.p (.bool false)],[])
   else
    bif (AU lq (0:Int)) then
     bif (Nz ((s'.data.getD lq.toNat 0).toNat:Int) (48:Int)) then
      bif (leI ((s'.data.getD lq.toNat 0).toNat:Int) (57:Int)) then
       L tab C 37 [] [.lp [1,0,1,0]] (dG s' G9 (IntKind.i64.wrap (lq+(1:Int))))
      else
       bif (((s'.data.getD lq.toNat 0).toNat:Int)==(45:Int)) then
        L tab C 37 [] [.lp [1,0,1,0]] (dG s' G9 (IntKind.i64.wrap (lq+(1:Int))))
       else
        bif (((s'.data.getD lq.toNat 0).toNat:Int)==(95:Int)) then
         L tab C 37 [] [.lp [1,0,1,0]] (dG s' G9 (IntKind.i64.wrap (lq+(1:Int))))
        else
         some ([.p (.bool false)],[])
     else
      bif (((s'.data.getD lq.toNat 0).toNat:Int)==(45:Int)) then
       L tab C 37 [] [.lp [1,0,1,0]] (dG s' G9 (IntKind.i64.wrap (lq+(1:Int))))
      else
       bif (((s'.data.getD lq.toNat 0).toNat:Int)==(95:Int)) then
        L tab C 37 [] [.lp [1,0,1,0]] (dG s' G9 (IntKind.i64.wrap (lq+(1:Int))))
       else
        some ([.p (.bool false)],[])
    else
     some ([.p (.bool false)],[]) else none
 else
  bif (Nz ((s'.size:Nat):Int) (1:Int)) then
   some ([.p (.bool (leI ((s'.size:Nat):Int) (32:Int)))],[])
  else
   some ([.p (.bool false)],[]):=by kernel_rfl
theorem e38 (C:aA) (p_0 p_1 iE:List PV)(aev at_:Int):bf tab C 38 [.p (.agg [.list false [.str] p_0,.list true bZ p_1,.list true dD iE]),.p (.int .i64 aev),.p (.int .i64 at_)] [] =
 some ([.p (.fn 59 [.ref [.list false [.str] p_0,.list true bZ p_1,.list true dD iE],.ref [.int .i64 aev],.ref [.int .i64 at_]])],[]):=by kernel_rfl
def zy (l_o l_l:Nat)(wz:List PV)(YH zA:Int)(l_b:List PV):St:=⟨Uq 5 ((.slice 5 3 l_o l_l)::Uq 13 ((.p (.list true kR wz))::(.p (.int .i64 YH))::(.p (.int .i64 zA))::List.replicate 10 .undef)),[(5,.arr true bZ l_b)]⟩
theorem e39 (C:aA) (p_0 p_1 iE:List PV)(acts:Int):bf tab C 39 [.p (.agg [.list false [.str] p_0,.list true bZ p_1,.list true dD iE]),.p (.int .i64 acts)] [] =
 bif (acts==(0:Int)) then
  (C 55 [.p (.list true bZ p_1)] []).bind fun r1 =>
  some ([.p (.list true bZ ((r1.1.headD .undef).pv.toList))],[])
 else
  bif ((leI (0:Int) (IntKind.i64.wrap (acts-(1:Int))))&&(eY (IntKind.i64.wrap (acts-(1:Int))) ((iE.length:Nat):Int))) then L tab C 39 [] [.lp [1,1,1,0,1,0]] (zy 0 0 (((iE.getD ((IntKind.i64.wrap (acts-(1:Int))).toNat) .nil).cell 2).toList) (((((iE.getD ((IntKind.i64.wrap (acts-(1:Int))).toNat) .nil).cell 2).toList).length:Nat):Int) 0 []) else none:=by kernel_rfl
theorem Kt (C:aA) (l_o l_l:Nat)(wz:List PV)(YH zA:Int)(l_b:List PV):R tab C 39 [] [.lp [1,1,1,0,1,0]] (zy l_o l_l wz YH zA l_b) =
 bif (eY zA YH) then
  bif ((leI (0:Int) zA)&&(eY zA ((wz.length:Nat):Int))) then bif (Ny (l_l+1) 2147483648) then L tab C 39 [] [.lp [1,1,1,0,1,0]] (zy 0 (l_l+1) wz YH (IntKind.i64.wrap (zA+(1:Int))) (((l_b.drop l_o).take l_l)++([.agg [.int .i64 (((wz.getD zA.toNat .nil).cell 0).toInt),.int .i64 (((wz.getD zA.toNat .nil).cell 1).toInt),.int .i64 (((wz.getD zA.toNat .nil).cell 2).toInt)]]:List PV))) else none else none
 else
  some ([.p (.list true bZ ((l_b.drop l_o).take l_l))],[]):=by kernel_rfl
def A8 (s':List PV)(v':ByteArray)(lq Uw:Int):St:=⟨(.p (.list false [.str] s'))::(.p (.str v'))::Uq 5 ((.p (.int .i64 lq))::(.p (.int .i64 Uw))::List.replicate 10 .undef),[]⟩
theorem e40 (C:aA) (s:List PV)(v:ByteArray):bf tab C 40 [.p (.list false [.str] s),.p (.str v)] [] =
 L tab C 40 [] [.lp [1,0,1,0]] (A8 s v ((s.length:Nat):Int) 0):=by kernel_rfl
theorem Ru (C:aA) (s':List PV)(v':ByteArray)(lq Uw:Int):R tab C 40 [] [.lp [1,0,1,0]] (A8 s' v' lq Uw) =
 bif (eY Uw lq) then
  bif ((leI (0:Int) Uw)&&(eY Uw ((s'.length:Nat):Int))) then bif (v'.toList==(((s'.getD Uw.toNat .nil).cell 0).toStr).toList) then
   some ([.p (.int .i64 Uw)],[])
  else
   L tab C 40 [] [.lp [1,0,1,0]] (A8 s' v' lq (IntKind.i64.wrap (Uw+(1:Int)))) else none
 else
  some ([.p (.int .i64 (-1))],[]):=by kernel_rfl
def dH (s':ByteArray)(i':Int):St:=⟨(.p (.str s'))::.undef::.undef::(.p (.int .i64 i'))::List.replicate 56 .undef,[]⟩
theorem e41 (C:aA) (s:ByteArray):bf tab C 41 [.p (.str s)] [] =
 L tab C 41 [] [.lp [1,0,1,0]] (dH s 0):=by kernel_rfl
theorem Rw (C:aA) (s':ByteArray)(i':Int):R tab C 41 [] [.lp [1,0,1,0]] (dH s' i') =
 bif (eY i' ((s'.size:Nat):Int)) then
  bif ((leI (0:Int) i')&&(eY i' (s'.size:Int))) then bif (Nz ((s'.data.getD i'.toNat 0).toNat:Int) (65:Int)) then
   bif (leI ((s'.data.getD i'.toNat 0).toNat:Int) (90:Int)) then
    L tab C 41 [] [.lp [1,0,1,0]] (dH s' (IntKind.i64.wrap (i'+(1:Int))))
   else
    bif (Nz ((s'.data.getD i'.toNat 0).toNat:Int) (97:Int)) then
     bif (!(leI ((s'.data.getD i'.toNat 0).toNat:Int) (122:Int))) then
      bif (i'==(0:Int)) then
       some ([.p (.bool false)],[])
      else
       bif (Nz ((s'.data.getD i'.toNat 0).toNat:Int) (48:Int)) then
        bif (!(leI ((s'.data.getD i'.toNat 0).toNat:Int) (57:Int))) then
         bif (((s'.data.getD i'.toNat 0).toNat:Int) != (45:Int)) then
          bif (((s'.data.getD i'.toNat 0).toNat:Int) != (95:Int)) then
           some ([.p (.bool false)],[])
          else
           L tab C 41 [] [.lp [1,0,1,0]] (dH s' (IntKind.i64.wrap (i'+(1:Int))))
         else
          L tab C 41 [] [.lp [1,0,1,0]] (dH s' (IntKind.i64.wrap (i'+(1:Int))))
        else
         L tab C 41 [] [.lp [1,0,1,0]] (dH s' (IntKind.i64.wrap (i'+(1:Int))))
       else
        bif (((s'.data.getD i'.toNat 0).toNat:Int) != (45:Int)) then
         bif (((s'.data.getD i'.toNat 0).toNat:Int) != (95:Int)) then
          some ([.p (.bool false)],[])
         else
          L tab C 41 [] [.lp [1,0,1,0]] (dH s' (IntKind.i64.wrap (i'+(1:Int))))
        else
         L tab C 41 [] [.lp [1,0,1,0]] (dH s' (IntKind.i64.wrap (i'+(1:Int))))
     else
      L tab C 41 [] [.lp [1,0,1,0]] (dH s' (IntKind.i64.wrap (i'+(1:Int))))
    else
     bif (i'==(0:Int)) then
      some ([.p (.bool false)],[])
     else
      bif (Nz ((s'.data.getD i'.toNat 0).toNat:Int) (48:Int)) then
       bif (!(leI ((s'.data.getD i'.toNat 0).toNat:Int) (57:Int))) then
        bif (((s'.data.getD i'.toNat 0).toNat:Int) != (45:Int)) then
         bif (((s'.data.getD i'.toNat 0).toNat:Int) != (95:Int)) then
          some ([.p (.bool false)],[])
         else
          L tab C 41 [] [.lp [1,0,1,0]] (dH s' (IntKind.i64.wrap (i'+(1:Int))))
        else
         L tab C 41 [] [.lp [1,0,1,0]] (dH s' (IntKind.i64.wrap (i'+(1:Int))))
       else
        L tab C 41 [] [.lp [1,0,1,0]] (dH s' (IntKind.i64.wrap (i'+(1:Int))))
      else
       bif (((s'.data.getD i'.toNat 0).toNat:Int) != (45:Int)) then
        bif (((s'.data.getD i'.toNat 0).toNat:Int) != (95:Int)) then
         some ([.p (.bool false)],[])
        else
         L tab C 41 [] [.lp [1,0,1,0]] (dH s' (IntKind.i64.wrap (i'+(1:Int))))
       else
        L tab C 41 [] [.lp [1,0,1,0]] (dH s' (IntKind.i64.wrap (i'+(1:Int))))
  else
   bif (Nz ((s'.data.getD i'.toNat 0).toNat:Int) (97:Int)) then
    bif (!(leI ((s'.data.getD i'.toNat 0).toNat:Int) (122:Int))) then
     bif (i'==(0:Int)) then
      some ([.p (.bool false)],[])
     else
      bif (Nz ((s'.data.getD i'.toNat 0).toNat:Int) (48:Int)) then
       bif (!(leI ((s'.data.getD i'.toNat 0).toNat:Int) (57:Int))) then
        bif (((s'.data.getD i'.toNat 0).toNat:Int) != (45:Int)) then
         bif (((s'.data.getD i'.toNat 0).toNat:Int) != (95:Int)) then
          some ([.p (.bool false)],[])
         else
          L tab C 41 [] [.lp [1,0,1,0]] (dH s' (IntKind.i64.wrap (i'+(1:Int))))
        else
         L tab C 41 [] [.lp [1,0,1,0]] (dH s' (IntKind.i64.wrap (i'+(1:Int))))
       else
        L tab C 41 [] [.lp [1,0,1,0]] (dH s' (IntKind.i64.wrap (i'+(1:Int))))
      else
       bif (((s'.data.getD i'.toNat 0).toNat:Int) != (45:Int)) then
        bif (((s'.data.getD i'.toNat 0).toNat:Int) != (95:Int)) then
         some ([.p (.bool false)],[])
        else
         L tab C 41 [] [.lp [1,0,1,0]] (dH s' (IntKind.i64.wrap (i'+(1:Int))))
       else
        L tab C 41 [] [.lp [1,0,1,0]] (dH s' (IntKind.i64.wrap (i'+(1:Int))))
    else
     L tab C 41 [] [.lp [1,0,1,0]] (dH s' (IntKind.i64.wrap (i'+(1:Int))))
   else
    bif (i'==(0:Int)) then
     some ([.p (.bool false)],[])
    else
     bif (Nz ((s'.data.getD i'.toNat 0).toNat:Int) (48:Int)) then
      bif (!(leI ((s'.data.getD i'.toNat 0).toNat:Int) (57:Int))) then
       bif (((s'.data.getD i'.toNat 0).toNat:Int) != (45:Int)) then
        bif (((s'.data.getD i'.toNat 0).toNat:Int) != (95:Int)) then
         some ([.p (.bool false)],[])
        else
         L tab C 41 [] [.lp [1,0,1,0]] (dH s' (IntKind.i64.wrap (i'+(1:Int))))
       else
        L tab C 41 [] [.lp [1,0,1,0]] (dH s' (IntKind.i64.wrap (i'+(1:Int))))
      else
       L tab C 41 [] [.lp [1,0,1,0]] (dH s' (IntKind.i64.wrap (i'+(1:Int))))
     else
      bif (((s'.data.getD i'.toNat 0).toNat:Int) != (45:Int)) then
       bif (((s'.data.getD i'.toNat 0).toNat:Int) != (95:Int)) then
        some ([.p (.bool false)],[])
       else
        L tab C 41 [] [.lp [1,0,1,0]] (dH s' (IntKind.i64.wrap (i'+(1:Int))))
      else
       L tab C 41 [] [.lp [1,0,1,0]] (dH s' (IntKind.i64.wrap (i'+(1:Int)))) else none
 else
  bif (Nz ((s'.size:Nat):Int) (1:Int)) then
   some ([.p (.bool (leI ((s'.size:Nat):Int) (32:Int)))],[])
  else
   some ([.p (.bool false)],[]):=by kernel_rfl
theorem e42 (C:aA) (Rx v_1 Ry:Int):bf tab C 42 [.p (.agg [.int .i64 Rx,.int .i64 v_1,.int .i64 Ry])] [] =
 (C 61 [.p (.int .i64 Rx)] []).bind fun r1 =>
 bif (r1.1.headD .undef).pv.toBool then
  (C 61 [.p (.int .i64 v_1)] []).bind fun r2 =>
  bif (r2.1.headD .undef).pv.toBool then
   (C 61 [.p (.int .i64 Ry)] []).bind fun r3 =>
   some ([.p (.bool ((r3.1.headD .undef).pv.toBool))],[])
  else
   some ([.p (.bool false)],[])
 else
  some ([.p (.bool false)],[]):=by kernel_rfl
theorem e43 (C:aA) (gJ gK gQ Jp m_1 m_2 Fz FB Jq length:Int):bf tab C 43 [.p (.agg [.int .i64 gJ,.int .i64 gK,.int .i64 gQ]),.p (.agg [.int .i64 Jp,.int .i64 m_1,.int .i64 m_2,.int .i64 Fz,.int .i64 FB,.int .i64 Jq]),.p (.int .i64 length)] [] =
 (C 42 [.p (.agg [.int .i64 Jp,.int .i64 m_1,.int .i64 m_2])] []).bind fun r1 =>
 bif (!(r1.1.headD .undef).pv.toBool) then
  some ([.p (.bool false)],[])
 else
  (C 62 [.p (.int .i64 Fz)] []).bind fun r2 =>
  bif (!(r2.1.headD .undef).pv.toBool) then
   some ([.p (.bool false)],[])
  else
   (C 62 [.p (.int .i64 FB)] []).bind fun r3 =>
   bif (!(r3.1.headD .undef).pv.toBool) then
    some ([.p (.bool false)],[])
   else
    (C 62 [.p (.int .i64 Jq)] []).bind fun r4 =>
    bif (!(r4.1.headD .undef).pv.toBool) then
     some ([.p (.bool false)],[])
    else
     bif (AU (IntKind.i64.wrap (Fz+FB)) length) then
      some ([.p (.bool false)],[])
     else
      bif (FB==(0:Int)) then
       bif ((Jp==gJ)&&((m_1==gK)&&((m_2==gQ)&&true))) then
        some ([.p (.bool (Jq==(0:Int)))],[])
       else
        some ([.p (.bool false)],[])
      else
       (C 63 [.p (.agg [.int .i64 gJ,.int .i64 gK,.int .i64 gQ]),.p (.int .i64 Jq)] []).bind fun r5 =>
       (C 63 [.p (.agg [.int .i64 Jp,.int .i64 m_1,.int .i64 m_2]),.p (.int .i64 Jq)] []).bind fun r6 =>
       bif (Jq==(0:Int)) then
        some ([.p (.bool true)],[])
       else
        bif ((FB.tmod (4:Int))==(0:Int)) then
         bif (r5.1.tail.headD .undef).pv.toBool then
          some ([.p (.bool ((r6.1.tail.headD .undef).pv.toBool))],[])
         else
          some ([.p (.bool false)],[])
        else
         some ([.p (.bool false)],[]):=by kernel_rfl
theorem e44 (C:aA) (gJ gK gQ Jp m_1 m_2 Fz FB Jq at_ length:Int):bf tab C 44 [.p (.agg [.int .i64 gJ,.int .i64 gK,.int .i64 gQ]),.p (.agg [.int .i64 Jp,.int .i64 m_1,.int .i64 m_2,.int .i64 Fz,.int .i64 FB,.int .i64 Jq]),.p (.int .i64 at_),.p (.int .i64 length)] [] =
 bif (FB==(0:Int)) then
  (C 64 [.p (.agg [.int .i64 gJ,.int .i64 gK,.int .i64 gQ]),.p (.int .i64 at_),.p (.int .i64 (IntKind.i64.wrap (at_+length)))] []).bind fun r1 =>
  some ([.fresh true iy ((((r1.1.headD .undef).ak).drop 0).take ((r1.1.headD .undef).ak.length))],[])
 else
  (C 64 [.p (.agg [.int .i64 gJ,.int .i64 gK,.int .i64 gQ]),.p (.int .i64 at_),.p (.int .i64 (IntKind.i64.wrap (at_+Fz)))] []).bind fun r2 =>
  bif (Jq==(0:Int)) then
   (C 65 [.p (.agg [.int .i64 gJ,.int .i64 gK,.int .i64 gQ]),.p (.agg [.int .i64 Jp,.int .i64 m_1,.int .i64 m_2]),.p (.int .i64 (IntKind.i64.wrap (at_+Fz))),.p (.int .i64 (IntKind.i64.wrap ((IntKind.i64.wrap (at_+Fz))+FB))),.p (.int .i64 0)] []).bind fun r3 =>
   bif (Ny ((r2.1.headD .undef).ak.length+1) 2147483648) then(C 64 [.p (.agg [.int .i64 Jp,.int .i64 m_1,.int .i64 m_2]),.p (.int .i64 (IntKind.i64.wrap ((IntKind.i64.wrap (at_+Fz))+FB))),.p (.int .i64 (IntKind.i64.wrap (at_+length)))] []).bind fun r4 =>
   bif (Ny (((r2.1.headD .undef).ak.length+1)+(r4.1.headD .undef).ak.length) 2147483648) then some ([.fresh true iy ((((((((((r2.1.headD .undef).ak).drop 0).take ((r2.1.headD .undef).ak.length))++([.agg [.int .i64 (((r3.1.headD .undef).pv.cell 0).toInt),.int .i64 (((r3.1.headD .undef).pv.cell 1).toInt),.int .i64 (((r3.1.headD .undef).pv.cell 2).toInt),.list false [.int .i64] (((r3.1.headD .undef).pv.cell 3).toList),.list false [.int .i64] (((r3.1.headD .undef).pv.cell 4).toList),.list false [.int .i64] (((r3.1.headD .undef).pv.cell 5).toList)]]:List PV)).drop 0).take ((r2.1.headD .undef).ak.length+1))++((((r4.1.headD .undef).ak).drop 0).take ((r4.1.headD .undef).ak.length))).drop 0).take (((r2.1.headD .undef).ak.length+1)+(r4.1.headD .undef).ak.length))],[]) else none else none
  else
   (C 66 [.p (.agg [.int .i64 gJ,.int .i64 gK,.int .i64 gQ]),.p (.agg [.int .i64 Jp,.int .i64 m_1,.int .i64 m_2]),.p (.int .i64 Jq),.p (.int .i64 (IntKind.i64.wrap (at_+Fz))),.p (.int .i64 (IntKind.i64.wrap ((IntKind.i64.wrap (at_+Fz))+FB)))] []).bind fun r5 =>
   bif (Ny ((r2.1.headD .undef).ak.length+(r5.1.headD .undef).ak.length) 2147483648) then(C 64 [.p (.agg [.int .i64 Jp,.int .i64 m_1,.int .i64 m_2]),.p (.int .i64 (IntKind.i64.wrap ((IntKind.i64.wrap (at_+Fz))+FB))),.p (.int .i64 (IntKind.i64.wrap (at_+length)))] []).bind fun r6 =>
   bif (Ny (((r2.1.headD .undef).ak.length+(r5.1.headD .undef).ak.length)+(r6.1.headD .undef).ak.length) 2147483648) then some ([.fresh true iy ((((((((((r2.1.headD .undef).ak).drop 0).take ((r2.1.headD .undef).ak.length))++((((r5.1.headD .undef).ak).drop 0).take ((r5.1.headD .undef).ak.length))).drop 0).take ((r2.1.headD .undef).ak.length+(r5.1.headD .undef).ak.length))++((((r6.1.headD .undef).ak).drop 0).take ((r6.1.headD .undef).ak.length))).drop 0).take (((r2.1.headD .undef).ak.length+(r5.1.headD .undef).ak.length)+(r6.1.headD .undef).ak.length))],[]) else none else none:=by kernel_rfl
def yL (a' b':List PV)(i':Int):St:=⟨(.p (.list true kR a'))::(.p (.list true kR b'))::.undef::.undef::.undef::(.p (.int .i64 i'))::List.replicate 20 .undef,[]⟩
theorem e46 (C:aA) (a b:List PV):bf tab C 46 [.p (.list true kR a),.p (.list true kR b)] [] =
 bif (((a.length:Nat):Int) != ((b.length:Nat):Int)) then
  some ([.p (.bool false)],[])
 else
  L tab C 46 [] [.lp [1,1,0,1,0]] (yL a b 0):=by kernel_rfl
theorem Oj (C:aA) (a' b':List PV)(i':Int):R tab C 46 [] [.lp [1,1,0,1,0]] (yL a' b' i') =
 bif (eY i' ((a'.length:Nat):Int)) then
  bif ((leI (0:Int) i')&&(eY i' ((a'.length:Nat):Int))) then bif ((leI (0:Int) i')&&(eY i' ((b'.length:Nat):Int))) then bif (!(((((a'.getD i'.toNat .nil).cell 0).toInt==((b'.getD i'.toNat .nil).cell 0).toInt)&&((((a'.getD i'.toNat .nil).cell 1).toInt==((b'.getD i'.toNat .nil).cell 1).toInt)&&((((a'.getD i'.toNat .nil).cell 2).toInt==((b'.getD i'.toNat .nil).cell 2).toInt)&&true)))&&((((a'.getD i'.toNat .nil).cell 3).toInt==((b'.getD i'.toNat .nil).cell 3).toInt)&&((((a'.getD i'.toNat .nil).cell 4).toInt==((b'.getD i'.toNat .nil).cell 4).toInt)&&((((a'.getD i'.toNat .nil).cell 5).toInt==((b'.getD i'.toNat .nil).cell 5).toInt)&&true))))) then
   some ([.p (.bool false)],[])
  else
   L tab C 46 [] [.lp [1,1,0,1,0]] (yL a' b' (IntKind.i64.wrap (i'+(1:Int)))) else none else none
 else
  some ([.p (.bool true)],[]):=by kernel_rfl
def yM (s1' s2':List PV)(l7 bT:Int):St:=⟨(.p (.list false [.str] s1'))::(.p (.list false [.str] s2'))::Uq 10 ((.p (.int .i64 l7))::(.p (.int .i64 bT))::List.replicate 12 .undef),[]⟩
theorem e49 (C:aA) (s1 s2:List PV):bf tab C 49 [.p (.list false [.str] s1),.p (.list false [.str] s2)] [] =
 bif (((s1.length:Nat):Int) != ((s2.length:Nat):Int)) then
  some ([.p (.bool false)],[])
 else
  L tab C 49 [] [.lp [1,1,0,1,0]] (yM s1 s2 ((s1.length:Nat):Int) 0):=by kernel_rfl
theorem Ol (C:aA) (s1' s2':List PV)(l7 bT:Int):R tab C 49 [] [.lp [1,1,0,1,0]] (yM s1' s2' l7 bT) =
 bif (eY bT l7) then
  bif ((leI (0:Int) bT)&&(eY bT ((s1'.length:Nat):Int))) then bif ((leI (0:Int) bT)&&(eY bT ((s2'.length:Nat):Int))) then bif (!((((s1'.getD bT.toNat .nil).cell 0).toStr).toList==(((s2'.getD bT.toNat .nil).cell 0).toStr).toList)) then
   some ([.p (.bool false)],[])
  else
   L tab C 49 [] [.lp [1,1,0,1,0]] (yM s1' s2' l7 (IntKind.i64.wrap (bT+(1:Int)))) else none else none
 else
  some ([.p (.bool true)],[]):=by kernel_rfl
def yN (s1' s2':List PV)(l7 bT:Int):St:=⟨(.p (.list true bZ s1'))::(.p (.list true bZ s2'))::Uq 10 ((.p (.int .i64 l7))::(.p (.int .i64 bT))::List.replicate 12 .undef),[]⟩
theorem e50 (C:aA) (s1 s2:List PV):bf tab C 50 [.p (.list true bZ s1),.p (.list true bZ s2)] [] =
 bif (((s1.length:Nat):Int) != ((s2.length:Nat):Int)) then
  some ([.p (.bool false)],[])
 else
  L tab C 50 [] [.lp [1,1,0,1,0]] (yN s1 s2 ((s1.length:Nat):Int) 0):=by kernel_rfl
theorem Om (C:aA) (s1' s2':List PV)(l7 bT:Int):R tab C 50 [] [.lp [1,1,0,1,0]] (yN s1' s2' l7 bT) =
 bif (eY bT l7) then
  bif ((leI (0:Int) bT)&&(eY bT ((s1'.length:Nat):Int))) then bif ((leI (0:Int) bT)&&(eY bT ((s2'.length:Nat):Int))) then bif (!((((s1'.getD bT.toNat .nil).cell 0).toInt==((s2'.getD bT.toNat .nil).cell 0).toInt)&&((((s1'.getD bT.toNat .nil).cell 1).toInt==((s2'.getD bT.toNat .nil).cell 1).toInt)&&((((s1'.getD bT.toNat .nil).cell 2).toInt==((s2'.getD bT.toNat .nil).cell 2).toInt)&&true)))) then
   some ([.p (.bool false)],[])
  else
   L tab C 50 [] [.lp [1,1,0,1,0]] (yN s1' s2' l7 (IntKind.i64.wrap (bT+(1:Int)))) else none else none
 else
  some ([.p (.bool true)],[]):=by kernel_rfl
def yO (s2' nK:List PV)(uU gG:Int):St:=⟨.undef::(.p (.list true dD s2'))::(.p (.fn 52 []))::Uq 12 ((.p (.list true dD nK))::(.p (.int .i64 uU))::(.p (.int .i64 gG))::List.replicate 14 .undef),[]⟩
theorem e51 (C:aA) (s1 s2:List PV):bf tab C 51 [.p (.list true dD s1),.p (.list true dD s2),.p (.fn 52 [])] [] =
 bif (((s1.length:Nat):Int) != ((s2.length:Nat):Int)) then
  some ([.p (.bool false)],[])
 else
  L tab C 51 [] [.lp [1,1,0,1,0]] (yO s2 s1 ((s1.length:Nat):Int) 0):=by kernel_rfl
theorem Oo (C:aA) (s2' nK:List PV)(uU gG:Int):R tab C 51 [] [.lp [1,1,0,1,0]] (yO s2' nK uU gG) =
 bif (eY gG uU) then
  bif ((leI (0:Int) gG)&&(eY gG ((nK.length:Nat):Int))) then bif ((leI (0:Int) gG)&&(eY gG ((s2'.length:Nat):Int))) then(C 52 [.p (.agg [.str (((nK.getD gG.toNat .nil).cell 0).toStr),.int .i64 (((nK.getD gG.toNat .nil).cell 1).toInt),.list true kR (((nK.getD gG.toNat .nil).cell 2).toList)]),.p (.agg [.str (((s2'.getD gG.toNat .nil).cell 0).toStr),.int .i64 (((s2'.getD gG.toNat .nil).cell 1).toInt),.list true kR (((s2'.getD gG.toNat .nil).cell 2).toList)])] []).bind fun r1 =>
  bif (!(r1.1.headD .undef).pv.toBool) then
   some ([.p (.bool false)],[])
  else
   L tab C 51 [] [.lp [1,1,0,1,0]] (yO s2' nK uU (IntKind.i64.wrap (gG+(1:Int)))) else none else none
 else
  some ([.p (.bool true)],[]):=by kernel_rfl
theorem e52 (C:aA) (x_0:ByteArray)(x_1:Int)(x_2:List PV)(y_0:ByteArray)(y_1:Int)(y_2:List PV):bf tab C 52 [.p (.agg [.str x_0,.int .i64 x_1,.list true kR x_2]),.p (.agg [.str y_0,.int .i64 y_1,.list true kR y_2])] [] =
 bif (x_0.toList==y_0.toList) then
  bif (x_1==y_1) then
   (C 53 [.p (.list true kR x_2),.p (.list true kR y_2)] []).bind fun r1 =>
   some ([.p (.bool ((r1.1.headD .undef).pv.toBool))],[])
  else
   some ([.p (.bool false)],[])
 else
  some ([.p (.bool false)],[]):=by kernel_rfl
def yP (s1' s2':List PV)(l7 bT:Int):St:=⟨(.p (.list true kR s1'))::(.p (.list true kR s2'))::Uq 10 ((.p (.int .i64 l7))::(.p (.int .i64 bT))::List.replicate 12 .undef),[]⟩
theorem e53 (C:aA) (s1 s2:List PV):bf tab C 53 [.p (.list true kR s1),.p (.list true kR s2)] [] =
 bif (((s1.length:Nat):Int) != ((s2.length:Nat):Int)) then
  some ([.p (.bool false)],[])
 else
  L tab C 53 [] [.lp [1,1,0,1,0]] (yP s1 s2 ((s1.length:Nat):Int) 0):=by kernel_rfl
theorem Oq (C:aA) (s1' s2':List PV)(l7 bT:Int):R tab C 53 [] [.lp [1,1,0,1,0]] (yP s1' s2' l7 bT) =
 bif (eY bT l7) then
  bif ((leI (0:Int) bT)&&(eY bT ((s1'.length:Nat):Int))) then bif ((leI (0:Int) bT)&&(eY bT ((s2'.length:Nat):Int))) then bif (!(((((s1'.getD bT.toNat .nil).cell 0).toInt==((s2'.getD bT.toNat .nil).cell 0).toInt)&&((((s1'.getD bT.toNat .nil).cell 1).toInt==((s2'.getD bT.toNat .nil).cell 1).toInt)&&((((s1'.getD bT.toNat .nil).cell 2).toInt==((s2'.getD bT.toNat .nil).cell 2).toInt)&&true)))&&((((s1'.getD bT.toNat .nil).cell 3).toInt==((s2'.getD bT.toNat .nil).cell 3).toInt)&&((((s1'.getD bT.toNat .nil).cell 4).toInt==((s2'.getD bT.toNat .nil).cell 4).toInt)&&((((s1'.getD bT.toNat .nil).cell 5).toInt==((s2'.getD bT.toNat .nil).cell 5).toInt)&&true))))) then
   some ([.p (.bool false)],[])
  else
   L tab C 53 [] [.lp [1,1,0,1,0]] (yP s1' s2' l7 (IntKind.i64.wrap (bT+(1:Int)))) else none else none
 else
  some ([.p (.bool true)],[]):=by kernel_rfl
def Ot (wu:List PV)(l7 bT:Int)(bQ aH bG:List PV):St:=⟨.undef::(.ptr 1 0 0)::.undef::(.ptr 3 0 0)::Uq 7 ((.p (.list false [.str] wu))::(.p (.int .i64 l7))::(.p (.int .i64 bT))::List.replicate 70 .undef),[(1,.box [.p (.list false [.str] bQ),.p (.list true bZ aH),.p (.list true dD bG)]),(3,.tb 114 (.p (.yQ)) (.p (.nil)))]⟩
def pO (wu:List PV)(l7 bT:Int)(bQ aH bG iF:List PV):St:=⟨.undef::(.ptr 1 0 0)::.undef::(.ptr 3 0 0)::Uq 7 ((.p (.list false [.str] wu))::(.p (.int .i64 l7))::(.p (.int .i64 bT))::List.replicate 70 .undef),[(1,.box [.p (.list false [.str] bQ),.p (.list true bZ aH),.p (.list true dD bG)]),(3,.tb 114 (.ptr 3 0 0) (.mref 7990)),(7990,.br 5 iF)]⟩
def Ux (yR:List PV)(He wF:Int):St:=⟨.undef::.undef::.undef::(.ptr 3 0 0)::Uq 38 ((.p (.list true dD yR))::(.p (.int .i64 He))::(.p (.int .i64 wF))::List.replicate 39 .undef),[(3,.tb 114 (.p (.yQ)) (.p (.nil)))]⟩
def lH (yR:List PV)(He wF:Int)(iF:List PV):St:=⟨.undef::.undef::.undef::(.ptr 3 0 0)::Uq 38 ((.p (.list true dD yR))::(.p (.int .i64 He))::(.p (.int .i64 wF))::List.replicate 39 .undef),[(3,.tb 114 (.ptr 3 0 0) (.mref 7990)),(7990,.br 5 iF)]⟩
def iW (yR:List PV)(He wF:Int)(uV:List PV)(YI rX:Int)(iF:List PV):St:=⟨.undef::.undef::.undef::(.ptr 3 0 0)::Uq 38 ((.p (.list true dD yR))::(.p (.int .i64 He))::(.p (.int .i64 wF))::Uq 11 ((.p (.list true kR uV))::(.p (.int .i64 YI))::(.p (.int .i64 rX))::List.replicate 25 .undef)),[(3,.tb 114 (.ptr 3 0 0) (.mref 7990)),(7990,.br 5 iF)]⟩
theorem e57 (C:aA) (p_0 p_1 iE:List PV):bf tab C 57 [.p (.agg [.list false [.str] p_0,.list true bZ p_1,.list true dD iE])] [] =
 L tab C 57 [] [.lp [1,1,0,1,0]] (Ot p_0 ((p_0.length:Nat):Int) 0 p_0 p_1 iE):=by kernel_rfl
theorem Xh (C:aA) (wu:List PV)(l7 bT:Int)(bQ aH bG:List PV):R tab C 57 [] [.lp [1,1,0,1,0]] (Ot wu l7 bT bQ aH bG) =
 bif (eY bT l7) then
  bif ((leI (0:Int) bT)&&(eY bT ((wu.length:Nat):Int))) then bif ((leI (0:Int) bT)&&(eY bT ((aH.length:Nat):Int))) then bif ((leI (0:Int) bT)&&(eY bT ((aH.length:Nat):Int))) then bif ((leI (0:Int) bT)&&(eY bT ((aH.length:Nat):Int))) then bif ((([.int .i64 (((aH.getD bT.toNat .nil).cell 0).toInt),.int .i64 (((aH.getD bT.toNat .nil).cell 1).toInt),.int .i64 (((aH.getD bT.toNat .nil).cell 2).toInt)]:List PV)).all PV.Ag) then bif (Ny ((rD ([.str ⟨#[97,105,114,99,114,97,102,116]⟩,.str (((wu.getD bT.toNat .nil).cell 0).toStr)]:List PV) ([.int .i64 (((aH.getD bT.toNat .nil).cell 0).toInt),.int .i64 (((aH.getD bT.toNat .nil).cell 1).toInt),.int .i64 (((aH.getD bT.toNat .nil).cell 2).toInt)]:List PV)).size) 2147483648) then L tab C 57 [] [.lp [1,1,0,1,0]] (pO wu l7 (IntKind.i64.wrap (bT+(1:Int))) bQ aH bG (uX (rD ([.str ⟨#[97,105,114,99,114,97,102,116]⟩,.str (((wu.getD bT.toNat .nil).cell 0).toStr)]:List PV) ([.int .i64 (((aH.getD bT.toNat .nil).cell 0).toInt),.int .i64 (((aH.getD bT.toNat .nil).cell 1).toInt),.int .i64 (((aH.getD bT.toNat .nil).cell 2).toInt)]:List PV)))) else none else none else none else none else none else none
 else
  L tab C 57 [] [.lp [1,1,1,0,1,0]] (Ux bG ((bG.length:Nat):Int) 0):=by kernel_rfl
theorem FC (C:aA) (wu:List PV)(l7 bT:Int)(bQ aH bG iF:List PV):R tab C 57 [] [.lp [1,1,0,1,0]] (pO wu l7 bT bQ aH bG iF) =
 bif (eY bT l7) then
  bif ((leI (0:Int) bT)&&(eY bT ((wu.length:Nat):Int))) then bif ((leI (0:Int) bT)&&(eY bT ((aH.length:Nat):Int))) then bif ((leI (0:Int) bT)&&(eY bT ((aH.length:Nat):Int))) then bif ((leI (0:Int) bT)&&(eY bT ((aH.length:Nat):Int))) then bif ((([.int .i64 (((aH.getD bT.toNat .nil).cell 0).toInt),.int .i64 (((aH.getD bT.toNat .nil).cell 1).toInt),.int .i64 (((aH.getD bT.toNat .nil).cell 2).toInt)]:List PV)).all PV.Ag) then bif (Ny (iF.length+(rD ([.str ⟨#[97,105,114,99,114,97,102,116]⟩,.str (((wu.getD bT.toNat .nil).cell 0).toStr)]:List PV) ([.int .i64 (((aH.getD bT.toNat .nil).cell 0).toInt),.int .i64 (((aH.getD bT.toNat .nil).cell 1).toInt),.int .i64 (((aH.getD bT.toNat .nil).cell 2).toInt)]:List PV)).size) 2147483648) then L tab C 57 [] [.lp [1,1,0,1,0]] (pO wu l7 (IntKind.i64.wrap (bT+(1:Int))) bQ aH bG (iF++(uX (rD ([.str ⟨#[97,105,114,99,114,97,102,116]⟩,.str (((wu.getD bT.toNat .nil).cell 0).toStr)]:List PV) ([.int .i64 (((aH.getD bT.toNat .nil).cell 0).toInt),.int .i64 (((aH.getD bT.toNat .nil).cell 1).toInt),.int .i64 (((aH.getD bT.toNat .nil).cell 2).toInt)]:List PV))))) else none else none else none else none else none else none
 else
  L tab C 57 [] [.lp [1,1,1,0,1,0]] (lH bG ((bG.length:Nat):Int) 0 iF):=by kernel_rfl
theorem DK (C:aA) (yR:List PV)(He wF:Int)(iF:List PV):R tab C 57 [] [.lp [1,1,1,0,1,0]] (lH yR He wF iF) =
 bif (eY wF He) then
  bif ((leI (0:Int) wF)&&(eY wF ((yR.length:Nat):Int))) then bif ((([.int .i64 (((yR.getD wF.toNat .nil).cell 1).toInt)]:List PV)).all PV.Ag) then bif (Ny (iF.length+(rD ([.str ⟨#[97,99,116]⟩,.str (((yR.getD wF.toNat .nil).cell 0).toStr)]:List PV) ([.int .i64 (((yR.getD wF.toNat .nil).cell 1).toInt)]:List PV)).size) 2147483648) then L tab C 57 [] [.lp [1,1,1,0,1,0],.lp [1,1,0,0,1,1,1,0]] (iW yR He wF (((yR.getD wF.toNat .nil).cell 2).toList) (((((yR.getD wF.toNat .nil).cell 2).toList).length:Nat):Int) 0 (iF++(uX (rD ([.str ⟨#[97,99,116]⟩,.str (((yR.getD wF.toNat .nil).cell 0).toStr)]:List PV) ([.int .i64 (((yR.getD wF.toNat .nil).cell 1).toInt)]:List PV))))) else none else none else none
 else
  bif (Ny iF.length 2147483648) then bif (iF.all PV.isByte) then some ([.p (.str (bytesOf iF))],[]) else none else none:=by kernel_rfl
theorem sS (C:aA) (yR:List PV)(He wF:Int)(uV:List PV)(YI rX:Int)(iF:List PV):R tab C 57 [] [.lp [1,1,1,0,1,0],.lp [1,1,0,0,1,1,1,0]] (iW yR He wF uV YI rX iF) =
 bif (eY rX YI) then
  bif ((leI (0:Int) rX)&&(eY rX ((uV.length:Nat):Int))) then bif ((([.int .i64 (((uV.getD rX.toNat .nil).cell 0).toInt),.int .i64 (((uV.getD rX.toNat .nil).cell 1).toInt),.int .i64 (((uV.getD rX.toNat .nil).cell 2).toInt),.int .i64 (((uV.getD rX.toNat .nil).cell 3).toInt),.int .i64 (((uV.getD rX.toNat .nil).cell 4).toInt),.int .i64 (((uV.getD rX.toNat .nil).cell 5).toInt)]:List PV)).all PV.Ag) then bif (Ny (iF.length+(rD ([.str ⟨#[109,111,118,101]⟩]:List PV) ([.int .i64 (((uV.getD rX.toNat .nil).cell 0).toInt),.int .i64 (((uV.getD rX.toNat .nil).cell 1).toInt),.int .i64 (((uV.getD rX.toNat .nil).cell 2).toInt),.int .i64 (((uV.getD rX.toNat .nil).cell 3).toInt),.int .i64 (((uV.getD rX.toNat .nil).cell 4).toInt),.int .i64 (((uV.getD rX.toNat .nil).cell 5).toInt)]:List PV)).size) 2147483648) then L tab C 57 [] [.lp [1,1,1,0,1,0],.lp [1,1,0,0,1,1,1,0]] (iW yR He wF uV YI (IntKind.i64.wrap (rX+(1:Int))) (iF++(uX (rD ([.str ⟨#[109,111,118,101]⟩]:List PV) ([.int .i64 (((uV.getD rX.toNat .nil).cell 0).toInt),.int .i64 (((uV.getD rX.toNat .nil).cell 1).toInt),.int .i64 (((uV.getD rX.toNat .nil).cell 2).toInt),.int .i64 (((uV.getD rX.toNat .nil).cell 3).toInt),.int .i64 (((uV.getD rX.toNat .nil).cell 4).toInt),.int .i64 (((uV.getD rX.toNat .nil).cell 5).toInt)]:List PV))))) else none else none else none
 else
  L tab C 57 [] [.lp [1,1,1,0,1,0]] (lH yR He (IntKind.i64.wrap (wF+(1:Int))) iF):=by kernel_rfl
theorem e58 (C:aA) (Rx v_1 Ry:Int):bf tab C 58 [.p (.agg [.int .i64 Rx,.int .i64 v_1,.int .i64 Ry])] [] =
 (C 70 [.p (.int .i64 1048576),.p (.list false [.int .i64] [.int .i64 Rx,.int .i64 v_1,.int .i64 Ry])] []).bind fun r1 =>
 some ([.p (.bool ((r1.1.headD .undef).pv.toBool))],[]):=by kernel_rfl
def PU (Ba:Int)(nK:List PV)(uU gG:Int)(dW:List PV)(J6:ByteArray)(G8:Int)(AB:List PV):St:=⟨(.zq)::.undef::.undef::(.p (.ref [.int .i64 Ba]))::.undef::(.ptr 5 0 0)::Uq 9 ((.p (.list true bZ nK))::(.p (.int .i64 uU))::(.p (.int .i64 gG))::List.replicate 20 .undef),[(100000,.log true dW),(5,.box [.p (.str J6),.p (.int .i64 G8),.p (.list true kR AB)])]⟩
def zB (Ba:Int)(aaS:ByteArray)(YJ:Int)(Ku nK:List PV)(uU gG:Int)(dW:List PV):St:=⟨(.zq)::.undef::.undef::(.p (.ref [.int .i64 Ba]))::.undef::(.p (.ref [.str aaS,.int .i64 YJ,.list true kR Ku]))::Uq 9 ((.p (.list true bZ nK))::(.p (.int .i64 uU))::(.p (.int .i64 gG))::List.replicate 20 .undef),[(100000,.log true dW)]⟩
theorem e59 (C:aA) (aey aez Xi:List PV)(c1 c2:Int):bf tab C 59 [.zq,.p (.ref [.list false [.str] aey,.list true bZ aez,.list true dD Xi]),.p (.ref [.int .i64 c1]),.p (.ref [.int .i64 c2])] [.log true []] =
 bif ((leI (0:Int) c1)&&(eY c1 ((Xi.length:Nat):Int))) then(C 39 [.p (.agg [.list false [.str] aey,.list true bZ aez,.list true dD Xi]),.p (.int .i64 c1)] []).bind fun r1 =>
 L tab C 59 [.log true []] [.lp [1,1,0]] (PU c2 ((r1.1.headD .undef).pv.toList) ((((r1.1.headD .undef).pv.toList).length:Nat):Int) 0 [] (((Xi.getD c1.toNat .nil).cell 0).toStr) (((Xi.getD c1.toNat .nil).cell 1).toInt) (((Xi.getD c1.toNat .nil).cell 2).toList)) else none:=by kernel_rfl
theorem aaT (C:aA) (Ba:Int)(nK:List PV)(uU gG:Int)(dW:List PV)(J6:ByteArray)(G8:Int)(AB:List PV):R tab C 59 [.log true []] [.lp [1,1,0]] (PU Ba nK uU gG dW J6 G8 AB) =
 bif (eY gG uU) then
  bif ((leI (0:Int) gG)&&(eY gG ((nK.length:Nat):Int))) then bif ((leI (0:Int) gG)&&(eY gG ((AB.length:Nat):Int))) then(C 60 [.p (.agg [.int .i64 (((nK.getD gG.toNat .nil).cell 0).toInt),.int .i64 (((nK.getD gG.toNat .nil).cell 1).toInt),.int .i64 (((nK.getD gG.toNat .nil).cell 2).toInt)]),.p (.agg [.int .i64 (((AB.getD gG.toNat .nil).cell 0).toInt),.int .i64 (((AB.getD gG.toNat .nil).cell 1).toInt),.int .i64 (((AB.getD gG.toNat .nil).cell 2).toInt),.int .i64 (((AB.getD gG.toNat .nil).cell 3).toInt),.int .i64 (((AB.getD gG.toNat .nil).cell 4).toInt),.int .i64 (((AB.getD gG.toNat .nil).cell 5).toInt)]),.p (.int .i64 Ba),.p (.int .i64 G8)] []).bind fun r1 =>
  fork (some ([],[.log false (dW++([.agg [.list true iy ((((r1.1.headD .undef).ak).drop 0).take ((r1.1.headD .undef).ak.length)),.int .i64 ((r1.1.tail.headD .undef).pv.toInt)]]:List PV))])) <|
  L tab C 59 [.log true []] [.lp [1,1,0]] (zB Ba J6 G8 AB nK uU (IntKind.i64.wrap (gG+(1:Int))) (dW++([.agg [.list true iy ((((r1.1.headD .undef).ak).drop 0).take ((r1.1.headD .undef).ak.length)),.int .i64 ((r1.1.tail.headD .undef).pv.toInt)]]:List PV))) else none else none
 else
  some ([],[.log true dW]):=by kernel_rfl
theorem Kv (C:aA) (Ba:Int)(aaS:ByteArray)(YJ:Int)(Ku nK:List PV)(uU gG:Int)(dW:List PV):R tab C 59 [.log true []] [.lp [1,1,0]] (zB Ba aaS YJ Ku nK uU gG dW) =
 bif (eY gG uU) then
  bif ((leI (0:Int) gG)&&(eY gG ((nK.length:Nat):Int))) then bif ((leI (0:Int) gG)&&(eY gG ((Ku.length:Nat):Int))) then(C 60 [.p (.agg [.int .i64 (((nK.getD gG.toNat .nil).cell 0).toInt),.int .i64 (((nK.getD gG.toNat .nil).cell 1).toInt),.int .i64 (((nK.getD gG.toNat .nil).cell 2).toInt)]),.p (.agg [.int .i64 (((Ku.getD gG.toNat .nil).cell 0).toInt),.int .i64 (((Ku.getD gG.toNat .nil).cell 1).toInt),.int .i64 (((Ku.getD gG.toNat .nil).cell 2).toInt),.int .i64 (((Ku.getD gG.toNat .nil).cell 3).toInt),.int .i64 (((Ku.getD gG.toNat .nil).cell 4).toInt),.int .i64 (((Ku.getD gG.toNat .nil).cell 5).toInt)]),.p (.int .i64 Ba),.p (.int .i64 YJ)] []).bind fun r1 =>
  fork (some ([],[.log false (dW++([.agg [.list true iy ((((r1.1.headD .undef).ak).drop 0).take ((r1.1.headD .undef).ak.length)),.int .i64 ((r1.1.tail.headD .undef).pv.toInt)]]:List PV))])) <|
  L tab C 59 [.log true []] [.lp [1,1,0]] (zB Ba aaS YJ Ku nK uU (IntKind.i64.wrap (gG+(1:Int))) (dW++([.agg [.list true iy ((((r1.1.headD .undef).ak).drop 0).take ((r1.1.headD .undef).ak.length)),.int .i64 ((r1.1.tail.headD .undef).pv.toInt)]]:List PV))) else none else none
 else
  some ([],[.log true dW]):=by kernel_rfl
theorem e60 (C:aA) (gJ gK gQ Jp m_1 m_2 Fz FB Jq at_ length:Int):bf tab C 60 [.p (.agg [.int .i64 gJ,.int .i64 gK,.int .i64 gQ]),.p (.agg [.int .i64 Jp,.int .i64 m_1,.int .i64 m_2,.int .i64 Fz,.int .i64 FB,.int .i64 Jq]),.p (.int .i64 at_),.p (.int .i64 length)] [] =
 (C 58 [.p (.agg [.int .i64 gJ,.int .i64 gK,.int .i64 gQ])] []).bind fun r1 =>
 bif (!(r1.1.headD .undef).pv.toBool) then
  some ([.fresh true iy [],.p (.int .i64 2)],[])
 else
  bif (eY length (1:Int)) then
   some ([.fresh true iy [],.p (.int .i64 2)],[])
  else
   (C 71 [.p (.int .i64 length)] []).bind fun r2 =>
   bif (!(r2.1.headD .undef).pv.toBool) then
    some ([.fresh true iy [],.p (.int .i64 2)],[])
   else
    (C 71 [.p (.int .i64 at_)] []).bind fun r3 =>
    bif (!(r3.1.headD .undef).pv.toBool) then
     some ([.fresh true iy [],.p (.int .i64 2)],[])
    else
     (C 72 [.p (.agg [.int .i64 gJ,.int .i64 gK,.int .i64 gQ]),.p (.agg [.int .i64 Jp,.int .i64 m_1,.int .i64 m_2,.int .i64 Fz,.int .i64 FB,.int .i64 Jq]),.p (.int .i64 length)] []).bind fun r4 =>
     bif (!(r4.1.headD .undef).pv.toBool) then
      some ([.fresh true iy [],.p (.int .i64 2)],[])
     else
      (C 71 [.p (.int .i64 (IntKind.i64.wrap (at_+length)))] []).bind fun r5 =>
      bif (!(r5.1.headD .undef).pv.toBool) then
       some ([.fresh true iy [],.p (.int .i64 3)],[])
      else
       (C 73 [.p (.agg [.int .i64 gJ,.int .i64 gK,.int .i64 gQ]),.p (.agg [.int .i64 Jp,.int .i64 m_1,.int .i64 m_2,.int .i64 Fz,.int .i64 FB,.int .i64 Jq]),.p (.int .i64 at_),.p (.int .i64 length)] []).bind fun r6 =>
       some ([.fresh true iy ((((r6.1.headD .undef).ak).drop 0).take ((r6.1.headD .undef).ak.length)),.p (.int .i64 0)],[]):=by kernel_rfl
theorem e61 (C:aA) (n_:Int):bf tab C 61 [.p (.int .i64 n_)] [] =
 bif (Nz n_ (-1048576:Int)) then
  some ([.p (.bool (leI n_ (1048576:Int)))],[])
 else
  some ([.p (.bool false)],[]):=by kernel_rfl
theorem e62 (C:aA) (n_:Int):bf tab C 62 [.p (.int .i64 n_)] [] =
 bif (Nz n_ (0:Int)) then
  some ([.p (.bool (leI n_ (3600000:Int)))],[])
 else
  some ([.p (.bool false)],[]):=by kernel_rfl
theorem e63 (C:aA) (Rx v_1 Ry rise:Int):bf tab C 63 [.p (.agg [.int .i64 Rx,.int .i64 v_1,.int .i64 Ry]),.p (.int .i64 rise)] [] =
 bif (eY rise (-2097152:Int)) then
  some ([.p (.agg [.int .i64 Rx,.int .i64 v_1,.int .i64 Ry]),.p (.bool false)],[])
 else
  bif (AU rise (2097152:Int)) then
   some ([.p (.agg [.int .i64 Rx,.int .i64 v_1,.int .i64 Ry]),.p (.bool false)],[])
  else
   (C 42 [.p (.agg [.int .i64 Rx,.int .i64 v_1,.int .i64 (IntKind.i64.wrap (Ry+rise))])] []).bind fun r1 =>
   some ([.p (.agg [.int .i64 Rx,.int .i64 v_1,.int .i64 (IntKind.i64.wrap (Ry+rise))]),.p (.bool ((r1.1.headD .undef).pv.toBool))],[]):=by kernel_rfl
theorem e64 (C:aA) (Kw Ky Kz from_ to:Int):bf tab C 64 [.p (.agg [.int .i64 Kw,.int .i64 Ky,.int .i64 Kz]),.p (.int .i64 from_),.p (.int .i64 to)] [] =
 bif (from_==to) then
  some ([.fresh true iy []],[])
 else
  (C 65 [.p (.agg [.int .i64 Kw,.int .i64 Ky,.int .i64 Kz]),.p (.agg [.int .i64 Kw,.int .i64 Ky,.int .i64 Kz]),.p (.int .i64 from_),.p (.int .i64 to),.p (.int .i64 2)] []).bind fun r1 =>
  some ([.fresh true iy [.agg [.int .i64 (((r1.1.headD .undef).pv.cell 0).toInt),.int .i64 (((r1.1.headD .undef).pv.cell 1).toInt),.int .i64 (((r1.1.headD .undef).pv.cell 2).toInt),.list false [.int .i64] (((r1.1.headD .undef).pv.cell 3).toList),.list false [.int .i64] (((r1.1.headD .undef).pv.cell 4).toList),.list false [.int .i64] (((r1.1.headD .undef).pv.cell 5).toList)]]],[]):=by kernel_rfl
theorem e65 (C:aA) (a_0 a_1 a_2 Fq b_1 Fv from_ to kind:Int):bf tab C 65 [.p (.agg [.int .i64 a_0,.int .i64 a_1,.int .i64 a_2]),.p (.agg [.int .i64 Fq,.int .i64 b_1,.int .i64 Fv]),.p (.int .i64 from_),.p (.int .i64 to),.p (.int .i64 kind)] [] =
 (C 74 [.p (.int .i64 a_0),.p (.int .i64 Fq),.p (.int .i64 kind)] []).bind fun r1 =>
 (C 74 [.p (.int .i64 a_1),.p (.int .i64 b_1),.p (.int .i64 kind)] []).bind fun r2 =>
 (C 74 [.p (.int .i64 a_2),.p (.int .i64 Fv),.p (.int .i64 kind)] []).bind fun r3 =>
 some ([.p (.agg [.int .i64 from_,.int .i64 to,.int .i64 1,.list false [.int .i64] ((((r1.1.headD .undef).ak).drop 0).take ((r1.1.headD .undef).ak.length)),.list false [.int .i64] ((((r2.1.headD .undef).ak).drop 0).take ((r2.1.headD .undef).ak.length)),.list false [.int .i64] ((((r3.1.headD .undef).ak).drop 0).take ((r3.1.headD .undef).ak.length))])],[]):=by kernel_rfl
theorem e66 (C:aA) (a_0 a_1 a_2 Fq b_1 Fv rise from_ to:Int):bf tab C 66 [.p (.agg [.int .i64 a_0,.int .i64 a_1,.int .i64 a_2]),.p (.agg [.int .i64 Fq,.int .i64 b_1,.int .i64 Fv]),.p (.int .i64 rise),.p (.int .i64 from_),.p (.int .i64 to)] [] =
 (C 42 [.p (.agg [.int .i64 a_0,.int .i64 a_1,.int .i64 a_2])] []).bind fun r1 =>
 bif (!(r1.1.headD .undef).pv.toBool) then
  some ([.fresh true iy [],.p (.int .i64 2)],[])
 else
  (C 42 [.p (.agg [.int .i64 Fq,.int .i64 b_1,.int .i64 Fv])] []).bind fun r2 =>
  bif (!(r2.1.headD .undef).pv.toBool) then
   some ([.fresh true iy [],.p (.int .i64 2)],[])
  else
   (C 75 [.p (.int .i64 from_),.p (.int .i64 to)] []).bind fun r3 =>
   bif (!(r3.1.headD .undef).pv.toBool) then
    some ([.fresh true iy [],.p (.int .i64 2)],[])
   else
    (C 63 [.p (.agg [.int .i64 a_0,.int .i64 a_1,.int .i64 a_2]),.p (.int .i64 rise)] []).bind fun r4 =>
    (C 63 [.p (.agg [.int .i64 Fq,.int .i64 b_1,.int .i64 Fv]),.p (.int .i64 rise)] []).bind fun r5 =>
    bif (((IntKind.i64.wrap (to-from_)).tmod (4:Int)) != (0:Int)) then
     some ([.fresh true iy [],.p (.int .i64 3)],[])
    else
     bif (!(r4.1.tail.headD .undef).pv.toBool) then
      some ([.fresh true iy [],.p (.int .i64 3)],[])
     else
      bif (!(r5.1.tail.headD .undef).pv.toBool) then
       some ([.fresh true iy [],.p (.int .i64 3)],[])
      else
       (C 65 [.p (.agg [.int .i64 a_0,.int .i64 a_1,.int .i64 a_2]),.p (.agg [.int .i64 (((r4.1.headD .undef).pv.cell 0).toInt),.int .i64 (((r4.1.headD .undef).pv.cell 1).toInt),.int .i64 (((r4.1.headD .undef).pv.cell 2).toInt)]),.p (.int .i64 from_),.p (.int .i64 (IntKind.i64.wrap (from_+(IntKind.i64.wrap ((IntKind.i64.wrap (to-from_)).tdiv (4:Int)))))),.p (.int .i64 0)] []).bind fun r6 =>
       (C 65 [.p (.agg [.int .i64 (((r4.1.headD .undef).pv.cell 0).toInt),.int .i64 (((r4.1.headD .undef).pv.cell 1).toInt),.int .i64 (((r4.1.headD .undef).pv.cell 2).toInt)]),.p (.agg [.int .i64 (((r5.1.headD .undef).pv.cell 0).toInt),.int .i64 (((r5.1.headD .undef).pv.cell 1).toInt),.int .i64 (((r5.1.headD .undef).pv.cell 2).toInt)]),.p (.int .i64 (IntKind.i64.wrap (from_+(IntKind.i64.wrap ((IntKind.i64.wrap (to-from_)).tdiv (4:Int)))))),.p (.int .i64 (IntKind.i64.wrap (from_+(IntKind.i64.wrap ((3:Int)*(IntKind.i64.wrap ((IntKind.i64.wrap (to-from_)).tdiv (4:Int)))))))),.p (.int .i64 0)] []).bind fun r7 =>
       (C 65 [.p (.agg [.int .i64 (((r5.1.headD .undef).pv.cell 0).toInt),.int .i64 (((r5.1.headD .undef).pv.cell 1).toInt),.int .i64 (((r5.1.headD .undef).pv.cell 2).toInt)]),.p (.agg [.int .i64 Fq,.int .i64 b_1,.int .i64 Fv]),.p (.int .i64 (IntKind.i64.wrap (from_+(IntKind.i64.wrap ((3:Int)*(IntKind.i64.wrap ((IntKind.i64.wrap (to-from_)).tdiv (4:Int)))))))),.p (.int .i64 to),.p (.int .i64 0)] []).bind fun r8 =>
       some ([.fresh true iy [.agg [.int .i64 (((r6.1.headD .undef).pv.cell 0).toInt),.int .i64 (((r6.1.headD .undef).pv.cell 1).toInt),.int .i64 (((r6.1.headD .undef).pv.cell 2).toInt),.list false [.int .i64] (((r6.1.headD .undef).pv.cell 3).toList),.list false [.int .i64] (((r6.1.headD .undef).pv.cell 4).toList),.list false [.int .i64] (((r6.1.headD .undef).pv.cell 5).toList)],.agg [.int .i64 (((r7.1.headD .undef).pv.cell 0).toInt),.int .i64 (((r7.1.headD .undef).pv.cell 1).toInt),.int .i64 (((r7.1.headD .undef).pv.cell 2).toInt),.list false [.int .i64] (((r7.1.headD .undef).pv.cell 3).toList),.list false [.int .i64] (((r7.1.headD .undef).pv.cell 4).toList),.list false [.int .i64] (((r7.1.headD .undef).pv.cell 5).toList)],.agg [.int .i64 (((r8.1.headD .undef).pv.cell 0).toInt),.int .i64 (((r8.1.headD .undef).pv.cell 1).toInt),.int .i64 (((r8.1.headD .undef).pv.cell 2).toInt),.list false [.int .i64] (((r8.1.headD .undef).pv.cell 3).toList),.list false [.int .i64] (((r8.1.headD .undef).pv.cell 4).toList),.list false [.int .i64] (((r8.1.headD .undef).pv.cell 5).toList)]],.p (.int .i64 0)],[]):=by kernel_rfl
def KC (Ou:Int)(lq:List PV)(Uw t9':Int):St:=⟨(.p (.int .i64 Ou))::Uq 6 ((.p (.list false [.int .i64] lq))::(.p (.int .i64 Uw))::(.p (.int .i64 t9'))::List.replicate 13 .undef),[]⟩
theorem e70 (C:aA) (most:Int)(numbers:List PV):bf tab C 70 [.p (.int .i64 most),.p (.list false [.int .i64] numbers)] [] =
 L tab C 70 [] [.lp [1,0,1,0]] (KC most numbers ((numbers.length:Nat):Int) 0):=by kernel_rfl
theorem FD (C:aA) (Ou:Int)(lq:List PV)(Uw t9':Int):R tab C 70 [] [.lp [1,0,1,0]] (KC Ou lq Uw t9') =
 bif (eY t9' Uw) then
  bif ((leI (0:Int) t9')&&(eY t9' ((lq.length:Nat):Int))) then bif (eY (((lq.getD t9'.toNat .nil).cell 0).toInt) (IntKind.i64.wrap (0-Ou))) then
   some ([.p (.bool false)],[])
  else
   bif (AU (((lq.getD t9'.toNat .nil).cell 0).toInt) Ou) then
    some ([.p (.bool false)],[])
   else
    L tab C 70 [] [.lp [1,0,1,0]] (KC Ou lq Uw (IntKind.i64.wrap (t9'+(1:Int)))) else none
 else
  some ([.p (.bool true)],[]):=by kernel_rfl
theorem e71 (C:aA) (n_:Int):bf tab C 71 [.p (.int .i64 n_)] [] =
 (C 79 [.p (.int .i64 n_),.p (.int .i64 3600000)] []).bind fun r1 =>
 some ([.p (.bool ((r1.1.headD .undef).pv.toBool))],[]):=by kernel_rfl
theorem e72 (C:aA) (gJ gK gQ Jp m_1 m_2 Fz FB Jq length:Int):bf tab C 72 [.p (.agg [.int .i64 gJ,.int .i64 gK,.int .i64 gQ]),.p (.agg [.int .i64 Jp,.int .i64 m_1,.int .i64 m_2,.int .i64 Fz,.int .i64 FB,.int .i64 Jq]),.p (.int .i64 length)] [] =
 (C 58 [.p (.agg [.int .i64 Jp,.int .i64 m_1,.int .i64 m_2])] []).bind fun r1 =>
 bif (!(r1.1.headD .undef).pv.toBool) then
  some ([.p (.bool false)],[])
 else
  (C 71 [.p (.int .i64 Fz)] []).bind fun r2 =>
  bif (!(r2.1.headD .undef).pv.toBool) then
   some ([.p (.bool false)],[])
  else
   (C 71 [.p (.int .i64 FB)] []).bind fun r3 =>
   bif (!(r3.1.headD .undef).pv.toBool) then
    some ([.p (.bool false)],[])
   else
    (C 71 [.p (.int .i64 Jq)] []).bind fun r4 =>
    bif (!(r4.1.headD .undef).pv.toBool) then
     some ([.p (.bool false)],[])
    else
     bif (AU (IntKind.i64.wrap (Fz+FB)) length) then
      some ([.p (.bool false)],[])
     else
      bif (FB==(0:Int)) then
       bif ((Jp==gJ)&&((m_1==gK)&&((m_2==gQ)&&true))) then
        some ([.p (.bool (Jq==(0:Int)))],[])
       else
        some ([.p (.bool false)],[])
      else
       bif (AU Jq (0:Int)) then
        bif ((FB.tmod (4:Int))==(0:Int)) then
         (C 80 [.p (.agg [.int .i64 gJ,.int .i64 gK,.int .i64 gQ]),.p (.int .i64 Jq)] []).bind fun r5 =>
         bif (r5.1.headD .undef).pv.toBool then
          (C 80 [.p (.agg [.int .i64 Jp,.int .i64 m_1,.int .i64 m_2]),.p (.int .i64 Jq)] []).bind fun r6 =>
          some ([.p (.bool ((r6.1.headD .undef).pv.toBool))],[])
         else
          some ([.p (.bool false)],[])
        else
         some ([.p (.bool false)],[])
       else
        some ([.p (.bool true)],[]):=by kernel_rfl
theorem e73 (C:aA) (gJ gK gQ Jp m_1 m_2 Fz FB Jq at_ length:Int):bf tab C 73 [.p (.agg [.int .i64 gJ,.int .i64 gK,.int .i64 gQ]),.p (.agg [.int .i64 Jp,.int .i64 m_1,.int .i64 m_2,.int .i64 Fz,.int .i64 FB,.int .i64 Jq]),.p (.int .i64 at_),.p (.int .i64 length)] [] =
 bif (FB==(0:Int)) then
  (C 81 [.p (.agg [.int .i64 gJ,.int .i64 gK,.int .i64 gQ]),.p (.int .i64 at_),.p (.int .i64 (IntKind.i64.wrap (at_+length))),.ptr 100000 0 0] [.box [.slice 99999 6 0 0],.arr true iy []]).bind fun r1 =>
  some ([.fresh true iy (((FH r1.2).drop ((zC r1.2).Rz)).take ((zC r1.2).sLen))],[])
 else
  (C 81 [.p (.agg [.int .i64 gJ,.int .i64 gK,.int .i64 gQ]),.p (.int .i64 at_),.p (.int .i64 (IntKind.i64.wrap (at_+Fz))),.ptr 100000 0 0] [.box [.slice 99999 6 0 0],.arr true iy []]).bind fun r2 =>
  (C 83 [.p (.agg [.int .i64 gJ,.int .i64 gK,.int .i64 gQ]),.p (.agg [.int .i64 Jp,.int .i64 m_1,.int .i64 m_2]),.p (.int .i64 (IntKind.i64.wrap (at_+Fz))),.p (.int .i64 (IntKind.i64.wrap ((IntKind.i64.wrap (at_+Fz))+FB)))] []).bind fun r3 =>
  bif (AU Jq (0:Int)) then
   (C 84 [.p (.agg [.int .i64 gJ,.int .i64 gK,.int .i64 gQ]),.p (.agg [.int .i64 Jp,.int .i64 m_1,.int .i64 m_2]),.p (.int .i64 Jq),.p (.int .i64 (IntKind.i64.wrap (at_+Fz))),.p (.int .i64 (IntKind.i64.wrap ((IntKind.i64.wrap (at_+Fz))+FB)))] []).bind fun r4 =>
   bif (Ny ((zC r2.2).sLen+(r4.1.headD .undef).ak.length) 2147483648) then(C 81 [.p (.agg [.int .i64 Jp,.int .i64 m_1,.int .i64 m_2]),.p (.int .i64 (IntKind.i64.wrap ((IntKind.i64.wrap (at_+Fz))+FB))),.p (.int .i64 (IntKind.i64.wrap (at_+length))),.ptr 100000 0 0] [.box [.slice 99999 6 0 ((zC r2.2).sLen+(r4.1.headD .undef).ak.length)],.arr true iy ((((FH r2.2).drop ((zC r2.2).Rz)).take ((zC r2.2).sLen))++((((r4.1.headD .undef).ak).drop 0).take ((r4.1.headD .undef).ak.length)))]).bind fun r5 =>
   some ([.fresh true iy (((FH r5.2).drop ((zC r5.2).Rz)).take ((zC r5.2).sLen))],[]) else none
  else
   bif (Ny ((zC r2.2).sLen+(r3.1.headD .undef).ak.length) 2147483648) then(C 81 [.p (.agg [.int .i64 Jp,.int .i64 m_1,.int .i64 m_2]),.p (.int .i64 (IntKind.i64.wrap ((IntKind.i64.wrap (at_+Fz))+FB))),.p (.int .i64 (IntKind.i64.wrap (at_+length))),.ptr 100000 0 0] [.box [.slice 99999 6 0 ((zC r2.2).sLen+(r3.1.headD .undef).ak.length)],.arr true iy ((((FH r2.2).drop ((zC r2.2).Rz)).take ((zC r2.2).sLen))++((((r3.1.headD .undef).ak).drop 0).take ((r3.1.headD .undef).ak.length)))]).bind fun r6 =>
   some ([.fresh true iy (((FH r6.2).drop ((zC r6.2).Rz)).take ((zC r6.2).sLen))],[]) else none:=by kernel_rfl
theorem e74 (C:aA) (a b kind:Int):bf tab C 74 [.p (.int .i64 a),.p (.int .i64 b),.p (.int .i64 kind)] [] =
 bif ((IntKind.i64.wrap (b-a))==(0:Int)) then
  some ([.fresh false [.int .i64] [.int .i64 a]],[])
 else
  bif (kind==(2:Int)) then
   some ([.fresh false [.int .i64] [.int .i64 a]],[])
  else
   bif (kind==(1:Int)) then
    some ([.fresh false [.int .i64] [.int .i64 a,.int .i64 (IntKind.i64.wrap (b-a))]],[])
   else
    some ([.fresh false [.int .i64] [.int .i64 a,.int .i64 0,.int .i64 0,.int .i64 (IntKind.i64.wrap ((10:Int)*(IntKind.i64.wrap (b-a)))),.int .i64 (IntKind.i64.wrap ((-15:Int)*(IntKind.i64.wrap (b-a)))),.int .i64 (IntKind.i64.wrap ((6:Int)*(IntKind.i64.wrap (b-a))))]],[]):=by kernel_rfl
theorem e75 (C:aA) (from_ to:Int):bf tab C 75 [.p (.int .i64 from_),.p (.int .i64 to)] [] =
 bif (Nz from_ (0:Int)) then
  bif (eY from_ to) then
   some ([.p (.bool (leI to (3600000:Int)))],[])
  else
   some ([.p (.bool false)],[])
 else
  some ([.p (.bool false)],[]):=by kernel_rfl
theorem e79 (C:aA) (n_ most:Int):bf tab C 79 [.p (.int .i64 n_),.p (.int .i64 most)] [] =
 bif (leI (0:Int) n_) then
  some ([.p (.bool (leI n_ most))],[])
 else
  some ([.p (.bool false)],[]):=by kernel_rfl
theorem e80 (C:aA) (Rx v_1 Ry rise:Int):bf tab C 80 [.p (.agg [.int .i64 Rx,.int .i64 v_1,.int .i64 Ry]),.p (.int .i64 rise)] [] =
 (C 58 [.p (.agg [.int .i64 Rx,.int .i64 v_1,.int .i64 (IntKind.i64.wrap (Ry+rise))])] []).bind fun r1 =>
 some ([.p (.bool ((r1.1.headD .undef).pv.toBool))],[]):=by kernel_rfl
theorem e81 (C:aA) (Rx v_1 Ry from_ to:Int)(aeA aaV:Nat)(aeB:List PV):bf tab C 81 [.p (.agg [.int .i64 Rx,.int .i64 v_1,.int .i64 Ry]),.p (.int .i64 from_),.p (.int .i64 to),.ptr 100000 0 0] [.box [.slice 99999 6 aeA aaV],.arr true iy aeB] =
 (C 82 [.p (.agg [.int .i64 Rx,.int .i64 v_1,.int .i64 Ry]),.p (.int .i64 from_),.p (.int .i64 to)] []).bind fun r1 =>
 bif (Ny (aaV+(r1.1.headD .undef).ak.length) 2147483648) then some ([],[.box [.slice 99999 6 0 (aaV+(r1.1.headD .undef).ak.length)],.arr true iy (((aeB.drop aeA).take aaV)++((((r1.1.headD .undef).ak).drop 0).take ((r1.1.headD .undef).ak.length)))]) else none:=by kernel_rfl
theorem e82 (C:aA) (Kw Ky Kz from_ to:Int):bf tab C 82 [.p (.agg [.int .i64 Kw,.int .i64 Ky,.int .i64 Kz]),.p (.int .i64 from_),.p (.int .i64 to)] [] =
 (C 88 [.p (.agg [.int .i64 Kw,.int .i64 Ky,.int .i64 Kz]),.p (.agg [.int .i64 Kw,.int .i64 Ky,.int .i64 Kz]),.p (.int .i64 from_),.p (.int .i64 to),.p (.int .i64 0)] []).bind fun r1 =>
 some ([.fresh true iy ((((r1.1.headD .undef).ak).drop 0).take ((r1.1.headD .undef).ak.length)),.p (.int .i64 ((r1.1.tail.headD .undef).pv.toInt))],[]):=by kernel_rfl
theorem e83 (C:aA) (a_0 a_1 a_2 Fq b_1 Fv from_ to:Int):bf tab C 83 [.p (.agg [.int .i64 a_0,.int .i64 a_1,.int .i64 a_2]),.p (.agg [.int .i64 Fq,.int .i64 b_1,.int .i64 Fv]),.p (.int .i64 from_),.p (.int .i64 to)] [] =
 (C 88 [.p (.agg [.int .i64 a_0,.int .i64 a_1,.int .i64 a_2]),.p (.agg [.int .i64 Fq,.int .i64 b_1,.int .i64 Fv]),.p (.int .i64 from_),.p (.int .i64 to),.p (.int .i64 2)] []).bind fun r1 =>
 some ([.fresh true iy ((((r1.1.headD .undef).ak).drop 0).take ((r1.1.headD .undef).ak.length)),.p (.int .i64 ((r1.1.tail.headD .undef).pv.toInt))],[]):=by kernel_rfl
theorem e84 (C:aA) (a_0 a_1 a_2 Fq b_1 Fv rise from_ to:Int):bf tab C 84 [.p (.agg [.int .i64 a_0,.int .i64 a_1,.int .i64 a_2]),.p (.agg [.int .i64 Fq,.int .i64 b_1,.int .i64 Fv]),.p (.int .i64 rise),.p (.int .i64 from_),.p (.int .i64 to)] [] =
 (C 89 [.p (.agg [.int .i64 a_0,.int .i64 a_1,.int .i64 a_2]),.p (.agg [.int .i64 Fq,.int .i64 b_1,.int .i64 Fv]),.p (.int .i64 from_),.p (.int .i64 to)] []).bind fun r1 =>
 bif (!(r1.1.headD .undef).pv.toBool) then
  some ([.fresh true iy [],.p (.int .i64 2)],[])
 else
  bif ((IntKind.i64.wrap ((4:Int)*(IntKind.i64.wrap ((IntKind.i64.wrap (to-from_)).tdiv (4:Int))))) != (IntKind.i64.wrap (to-from_))) then
   some ([.fresh true iy [],.p (.int .i64 3)],[])
  else
   bif (eY rise (-2097152:Int)) then
    some ([.fresh true iy [],.p (.int .i64 3)],[])
   else
    bif (AU rise (2097152:Int)) then
     some ([.fresh true iy [],.p (.int .i64 3)],[])
    else
     (C 58 [.p (.agg [.int .i64 a_0,.int .i64 a_1,.int .i64 (IntKind.i64.wrap (a_2+rise))])] []).bind fun r2 =>
     bif (!(r2.1.headD .undef).pv.toBool) then
      some ([.fresh true iy [],.p (.int .i64 3)],[])
     else
      (C 58 [.p (.agg [.int .i64 Fq,.int .i64 b_1,.int .i64 (IntKind.i64.wrap (Fv+rise))])] []).bind fun r3 =>
      bif (!(r3.1.headD .undef).pv.toBool) then
       some ([.fresh true iy [],.p (.int .i64 3)],[])
      else
       (C 90 [.p (.list true bZ [.agg [.int .i64 a_0,.int .i64 a_1,.int .i64 a_2],.agg [.int .i64 a_0,.int .i64 a_1,.int .i64 (IntKind.i64.wrap (a_2+rise))],.agg [.int .i64 Fq,.int .i64 b_1,.int .i64 (IntKind.i64.wrap (Fv+rise))],.agg [.int .i64 Fq,.int .i64 b_1,.int .i64 Fv]]),.p (.list false [.int .i64] [.int .i64 from_,.int .i64 (IntKind.i64.wrap (from_+(IntKind.i64.wrap ((IntKind.i64.wrap (to-from_)).tdiv (4:Int))))),.int .i64 (IntKind.i64.wrap (to-(IntKind.i64.wrap ((IntKind.i64.wrap (to-from_)).tdiv (4:Int))))),.int .i64 to])] []).bind fun r4 =>
       some ([.fresh true iy ((((r4.1.headD .undef).ak).drop 0).take ((r4.1.headD .undef).ak.length)),.p (.int .i64 ((r4.1.tail.headD .undef).pv.toInt))],[]):=by kernel_rfl
theorem e88 (C:aA) (a_0 a_1 a_2 Fq b_1 Fv from_ to k:Int):bf tab C 88 [.p (.agg [.int .i64 a_0,.int .i64 a_1,.int .i64 a_2]),.p (.agg [.int .i64 Fq,.int .i64 b_1,.int .i64 Fv]),.p (.int .i64 from_),.p (.int .i64 to),.p (.int .i64 k)] [] =
 (C 89 [.p (.agg [.int .i64 a_0,.int .i64 a_1,.int .i64 a_2]),.p (.agg [.int .i64 Fq,.int .i64 b_1,.int .i64 Fv]),.p (.int .i64 from_),.p (.int .i64 to)] []).bind fun r1 =>
 bif (!(r1.1.headD .undef).pv.toBool) then
  some ([.fresh true iy [],.p (.int .i64 2)],[])
 else
  (C 94 [.p (.agg [.int .i64 a_0,.int .i64 a_1,.int .i64 a_2]),.p (.agg [.int .i64 Fq,.int .i64 b_1,.int .i64 Fv]),.p (.int .i64 from_),.p (.int .i64 to),.p (.int .i64 k)] []).bind fun r2 =>
  some ([.fresh true iy [.agg [.int .i64 (((r2.1.headD .undef).pv.cell 0).toInt),.int .i64 (((r2.1.headD .undef).pv.cell 1).toInt),.int .i64 (((r2.1.headD .undef).pv.cell 2).toInt),.list false [.int .i64] (((r2.1.headD .undef).pv.cell 3).toList),.list false [.int .i64] (((r2.1.headD .undef).pv.cell 4).toList),.list false [.int .i64] (((r2.1.headD .undef).pv.cell 5).toList)]],.p (.int .i64 0)],[]):=by kernel_rfl
theorem e89 (C:aA) (a_0 a_1 a_2 Fq b_1 Fv from_ to:Int):bf tab C 89 [.p (.agg [.int .i64 a_0,.int .i64 a_1,.int .i64 a_2]),.p (.agg [.int .i64 Fq,.int .i64 b_1,.int .i64 Fv]),.p (.int .i64 from_),.p (.int .i64 to)] [] =
 (C 58 [.p (.agg [.int .i64 a_0,.int .i64 a_1,.int .i64 a_2])] []).bind fun r1 =>
 bif (r1.1.headD .undef).pv.toBool then
  (C 58 [.p (.agg [.int .i64 Fq,.int .i64 b_1,.int .i64 Fv])] []).bind fun r2 =>
  bif (r2.1.headD .undef).pv.toBool then
   bif (leI (0:Int) from_) then
    bif (eY from_ to) then
     some ([.p (.bool (leI to (3600000:Int)))],[])
    else
     some ([.p (.bool false)],[])
   else
    some ([.p (.bool false)],[])
  else
   some ([.p (.bool false)],[])
 else
  some ([.p (.bool false)],[]):=by kernel_rfl
def Em (points' KD:List PV)(last':Int)(zA:List PV)(YK En:Int):St:=⟨(.p (.list true bZ points'))::(.p (.list false [.int .i64] KD))::Uq 4 ((.p (.int .i64 last'))::Uq 14 ((.p (.list false [.int .i64] zA))::(.p (.int .i64 YK))::(.p (.int .i64 En))::List.replicate 33 .undef)),[]⟩
def xw (jV jW:List PV):St:=⟨Uq 9 ((.ptr 9 0 0)::Uq 40 ((.p (.fn 103 [.ref [.list true bZ jV],.ref [.list false [.int .i64] jW]]))::List.replicate 6 .undef)),[(9,.box [.p (.nil)])]⟩
def mZ (jV jW:List PV)(Eo zD:Nat)(KE:List PV):St:=⟨Uq 9 ((.ptr 9 0 0)::Uq 40 ((.p (.fn 103 [.ref [.list true bZ jV],.ref [.list false [.int .i64] jW]]))::List.replicate 6 .undef)),[(9,.box [.slice 55 6 Eo zD]),(55,.arr true iy KE)]⟩
theorem e90 (C:aA) (points times:List PV):bf tab C 90 [.p (.list true bZ points),.p (.list false [.int .i64] times)] [] =
 bif (eY ((points.length:Nat):Int) (2:Int)) then
  some ([.fresh true iy [],.p (.int .i64 2)],[])
 else
  bif (((points.length:Nat):Int) != ((times.length:Nat):Int)) then
   some ([.fresh true iy [],.p (.int .i64 2)],[])
  else
   L tab C 90 [] [.lp [1,1,1,0,1,0]] (Em points times (-1) times ((times.length:Nat):Int) 0):=by kernel_rfl
theorem uY (C:aA) (points' KD:List PV)(last':Int)(zA:List PV)(YK En:Int):R tab C 90 [] [.lp [1,1,1,0,1,0]] (Em points' KD last' zA YK En) =
 bif (eY En YK) then
  bif ((leI (0:Int) En)&&(eY En ((zA.length:Nat):Int))) then bif ((leI (0:Int) En)&&(eY En ((points'.length:Nat):Int))) then(C 58 [.p (.agg [.int .i64 (((points'.getD En.toNat .nil).cell 0).toInt),.int .i64 (((points'.getD En.toNat .nil).cell 1).toInt),.int .i64 (((points'.getD En.toNat .nil).cell 2).toInt)])] []).bind fun r1 =>
  bif (!(r1.1.headD .undef).pv.toBool) then
   some ([.fresh true iy [],.p (.int .i64 2)],[])
  else
   bif (leI (((zA.getD En.toNat .nil).cell 0).toInt) last') then
    some ([.fresh true iy [],.p (.int .i64 2)],[])
   else
    bif (AU (((zA.getD En.toNat .nil).cell 0).toInt) (3600000:Int)) then
     some ([.fresh true iy [],.p (.int .i64 2)],[])
    else
     L tab C 90 [] [.lp [1,1,1,0,1,0]] (Em points' KD (((zA.getD En.toNat .nil).cell 0).toInt) zA YK (IntKind.i64.wrap (En+(1:Int)))) else none else none
 else
  bif (AU ((points'.length:Nat):Int) (257:Int)) then
   some ([.fresh true iy [],.p (.int .i64 7)],[])
  else
   (C 95 [.p (.list true bZ points'),.p (.list false [.int .i64] KD)] []).bind fun r2 =>
   (C 103 [.zq,.p (.ref [.list true bZ ((((r2.1.headD .undef).pv.cap 0).lZ 0).toList)]),.p (.ref [.list false [.int .i64] ((((r2.1.headD .undef).pv.cap 1).lZ 0).toList)])] [.log true []]).bind fun r3 =>
   L tab C 90 [] [.rg [1,1,1,1,1,1,0,1,0] [(true,iy)] (sQ r3.2)] (xw ((((r2.1.headD .undef).pv.cap 0).lZ 0).toList) ((((r2.1.headD .undef).pv.cap 1).lZ 0).toList)):=by kernel_rfl
theorem Ep (C:aA) (jV jW:List PV)(YL YM YN:Int)(YO YP YQ ys:List PV):L tab C 90 [] [.rg [1,1,1,1,1,1,0,1,0] [(true,iy)] (.agg [.agg [.int .i64 YL,.int .i64 YM,.int .i64 YN,.list false [.int .i64] YO,.list false [.int .i64] YP,.list false [.int .i64] YQ]]::ys)] (xw jV jW) =
 L tab C 90 [] [.rg [1,1,1,1,1,1,0,1,0] [(true,iy)] ys] (mZ jV jW 0 1 [.agg [.int .i64 YL,.int .i64 YM,.int .i64 YN,.list false [.int .i64] YO,.list false [.int .i64] YP,.list false [.int .i64] YQ]]):=by kernel_rfl
theorem Bc (C:aA) (jV jW:List PV)(Eo zD:Nat)(KE:List PV):L tab C 90 [] [.rg [1,1,1,1,1,1,0,1,0] [(true,iy)] []] (mZ jV jW Eo zD KE) =
 some ([.fresh true iy ((KE.drop Eo).take zD),.p (.int .i64 0)],[]):=by kernel_rfl
theorem qp (C:aA) (jV jW:List PV)(Eo zD:Nat)(KE:List PV)(YL YM YN:Int)(YO YP YQ ys:List PV):L tab C 90 [] [.rg [1,1,1,1,1,1,0,1,0] [(true,iy)] (.agg [.agg [.int .i64 YL,.int .i64 YM,.int .i64 YN,.list false [.int .i64] YO,.list false [.int .i64] YP,.list false [.int .i64] YQ]]::ys)] (mZ jV jW Eo zD KE) =
 bif (Ny (zD+1) 2147483648) then L tab C 90 [] [.rg [1,1,1,1,1,1,0,1,0] [(true,iy)] ys] (mZ jV jW 0 (zD+1) (((KE.drop Eo).take zD)++([.agg [.int .i64 YL,.int .i64 YM,.int .i64 YN,.list false [.int .i64] YO,.list false [.int .i64] YP,.list false [.int .i64] YQ]]:List PV))) else none:=by kernel_rfl
theorem e94 (C:aA) (a_0 a_1 a_2 Fq b_1 Fv from_ to k:Int):bf tab C 94 [.p (.agg [.int .i64 a_0,.int .i64 a_1,.int .i64 a_2]),.p (.agg [.int .i64 Fq,.int .i64 b_1,.int .i64 Fv]),.p (.int .i64 from_),.p (.int .i64 to),.p (.int .i64 k)] [] =
 (C 101 [] []).bind fun r1 =>
 bif (r1.1.headD .undef).pv.isMap then bif (gX tab 133 (PV.int .i64 k) ((r1.1.headD .undef).pv.wJ.zip (r1.1.headD .undef).pv.wK)).isSome then bif (kindOk (.slice false [.int .i64]) (kL (PV.nil) ((r1.1.headD .undef).pv.wJ.zip (r1.1.headD .undef).pv.wK) ((gX tab 133 (PV.int .i64 k) ((r1.1.headD .undef).pv.wJ.zip (r1.1.headD .undef).pv.wK)).getD none))) then(C 102 [.p (.int .i64 a_0),.p (.int .i64 Fq),.p (.list false [.int .i64] ((kL (PV.nil) ((r1.1.headD .undef).pv.wJ.zip (r1.1.headD .undef).pv.wK) ((gX tab 133 (PV.int .i64 k) ((r1.1.headD .undef).pv.wJ.zip (r1.1.headD .undef).pv.wK)).getD none)).toList))] []).bind fun r2 =>
 (C 102 [.p (.int .i64 a_1),.p (.int .i64 b_1),.p (.list false [.int .i64] ((kL (PV.nil) ((r1.1.headD .undef).pv.wJ.zip (r1.1.headD .undef).pv.wK) ((gX tab 133 (PV.int .i64 k) ((r1.1.headD .undef).pv.wJ.zip (r1.1.headD .undef).pv.wK)).getD none)).toList))] []).bind fun r3 =>
 (C 102 [.p (.int .i64 a_2),.p (.int .i64 Fv),.p (.list false [.int .i64] ((kL (PV.nil) ((r1.1.headD .undef).pv.wJ.zip (r1.1.headD .undef).pv.wK) ((gX tab 133 (PV.int .i64 k) ((r1.1.headD .undef).pv.wJ.zip (r1.1.headD .undef).pv.wK)).getD none)).toList))] []).bind fun r4 =>
 some ([.p (.agg [.int .i64 from_,.int .i64 to,.int .i64 1,.list false [.int .i64] ((((r2.1.headD .undef).ak).drop 0).take ((r2.1.headD .undef).ak.length)),.list false [.int .i64] ((((r3.1.headD .undef).ak).drop 0).take ((r3.1.headD .undef).ak.length)),.list false [.int .i64] ((((r4.1.headD .undef).ak).drop 0).take ((r4.1.headD .undef).ak.length))])],[]) else none else none else none:=by kernel_rfl
theorem e95 (C:aA) (points times:List PV):bf tab C 95 [.p (.list true bZ points),.p (.list false [.int .i64] times)] [] =
 some ([.p (.fn 103 [.ref [.list true bZ points],.ref [.list false [.int .i64] times]])],[]):=by kernel_rfl
theorem ajE (C:aA) :bf tab C 101 [] [] =
 bif (bK tab 133 (PV.int .i64 0) ([]:List (PV × PV))).isSome then bif (bK tab 133 (PV.int .i64 1) (dw ([]:List (PV × PV)) (PV.int .i64 0) (PV.nil) ((bK tab 133 (PV.int .i64 0) ([]:List (PV × PV))).getD none))).isSome then bif (bK tab 133 (PV.int .i64 2) (dw (dw ([]:List (PV × PV)) (PV.int .i64 0) (PV.nil) ((bK tab 133 (PV.int .i64 0) ([]:List (PV × PV))).getD none)) (PV.int .i64 1) (PV.list false [.int .i64] [.int .i64 1]) ((bK tab 133 (PV.int .i64 1) (dw ([]:List (PV × PV)) (PV.int .i64 0) (PV.nil) ((bK tab 133 (PV.int .i64 0) ([]:List (PV × PV))).getD none))).getD none))).isSome then some ([.p (.Es ((dw (dw (dw ([]:List (PV × PV)) (PV.int .i64 0) (PV.nil) ((bK tab 133 (PV.int .i64 0) ([]:List (PV × PV))).getD none)) (PV.int .i64 1) (PV.list false [.int .i64] [.int .i64 1]) ((bK tab 133 (PV.int .i64 1) (dw ([]:List (PV × PV)) (PV.int .i64 0) (PV.nil) ((bK tab 133 (PV.int .i64 0) ([]:List (PV × PV))).getD none))).getD none)) (PV.int .i64 2) (PV.list false [.int .i64] [.int .i64 0,.int .i64 0,.int .i64 10,.int .i64 (-15),.int .i64 6]) ((bK tab 133 (PV.int .i64 2) (dw (dw ([]:List (PV × PV)) (PV.int .i64 0) (PV.nil) ((bK tab 133 (PV.int .i64 0) ([]:List (PV × PV))).getD none)) (PV.int .i64 1) (PV.list false [.int .i64] [.int .i64 1]) ((bK tab 133 (PV.int .i64 1) (dw ([]:List (PV × PV)) (PV.int .i64 0) (PV.nil) ((bK tab 133 (PV.int .i64 0) ([]:List (PV × PV))).getD none))).getD none))).getD none)).map (fun x=>x.1)) ((dw (dw (dw ([]:List (PV × PV)) (PV.int .i64 0) (PV.nil) ((bK tab 133 (PV.int .i64 0) ([]:List (PV × PV))).getD none)) (PV.int .i64 1) (PV.list false [.int .i64] [.int .i64 1]) ((bK tab 133 (PV.int .i64 1) (dw ([]:List (PV × PV)) (PV.int .i64 0) (PV.nil) ((bK tab 133 (PV.int .i64 0) ([]:List (PV × PV))).getD none))).getD none)) (PV.int .i64 2) (PV.list false [.int .i64] [.int .i64 0,.int .i64 0,.int .i64 10,.int .i64 (-15),.int .i64 6]) ((bK tab 133 (PV.int .i64 2) (dw (dw ([]:List (PV × PV)) (PV.int .i64 0) (PV.nil) ((bK tab 133 (PV.int .i64 0) ([]:List (PV × PV))).getD none)) (PV.int .i64 1) (PV.list false [.int .i64] [.int .i64 1]) ((bK tab 133 (PV.int .i64 1) (dw ([]:List (PV × PV)) (PV.int .i64 0) (PV.nil) ((bK tab 133 (PV.int .i64 0) ([]:List (PV × PV))).getD none))).getD none))).getD none)).map (fun x=>x.2)))],[]) else none else none else none:=by kernel_rfl
def sZ (a' b':Int)(c_o c_l:Nat)(nK:List PV)(uU gG:Int)(c_b:List PV):St:=⟨(.p (.int .i64 a'))::(.p (.int .i64 b'))::Uq 5 ((.slice 7 1 c_o c_l)::Uq 7 ((.p (.list false [.int .i64] nK))::(.p (.int .i64 uU))::(.p (.int .i64 gG))::List.replicate 13 .undef)),[(7,.arr false [.int .i64] c_b)]⟩
theorem ajF (C:aA) (a b:Int)(row:List PV):bf tab C 102 [.p (.int .i64 a),.p (.int .i64 b),.p (.list false [.int .i64] row)] [] =
 bif (a != b) then
  L tab C 102 [] [.lp [1,1,0,1,0,1,0]] (sZ a b 0 1 row ((row.length:Nat):Int) 0 [.int .i64 a])
 else
  some ([.fresh false [.int .i64] [.int .i64 a]],[]):=by kernel_rfl
theorem FK (C:aA) (a' b':Int)(c_o c_l:Nat)(nK:List PV)(uU gG:Int)(c_b:List PV):R tab C 102 [] [.lp [1,1,0,1,0,1,0]] (sZ a' b' c_o c_l nK uU gG c_b) =
 bif (eY gG uU) then
  bif ((leI (0:Int) gG)&&(eY gG ((nK.length:Nat):Int))) then bif (Ny (c_l+1) 2147483648) then L tab C 102 [] [.lp [1,1,0,1,0,1,0]] (sZ a' b' 0 (c_l+1) nK uU (IntKind.i64.wrap (gG+(1:Int))) (((c_b.drop c_o).take c_l)++([.int .i64 (IntKind.i64.wrap (((nK.getD gG.toNat .nil).cell 0).toInt*(IntKind.i64.wrap (b'-a'))))]:List PV))) else none else none
 else
  some ([.fresh false [.int .i64] ((c_b.drop c_o).take c_l)],[]):=by kernel_rfl
def PW (yS IB:List PV)(i':Int)(dW:List PV):St:=⟨(.zq)::(.p (.ref [.list true bZ yS]))::(.p (.ref [.list false [.int .i64] IB]))::.undef::(.p (.int .i64 i'))::List.replicate 28 .undef,[(100000,.log true dW)]⟩
theorem ajG (C:aA) (c0 c1:List PV):bf tab C 103 [.zq,.p (.ref [.list true bZ c0]),.p (.ref [.list false [.int .i64] c1])] [.log true []] =
 L tab C 103 [.log true []] [.lp [1,0]] (PW c0 c1 1 []):=by kernel_rfl
theorem JB (C:aA) (yS IB:List PV)(i':Int)(dW:List PV):R tab C 103 [.log true []] [.lp [1,0]] (PW yS IB i' dW) =
 bif (eY i' ((yS.length:Nat):Int)) then
  bif ((leI (0:Int) (IntKind.i64.wrap (i'-(1:Int))))&&(eY (IntKind.i64.wrap (i'-(1:Int))) ((yS.length:Nat):Int))) then bif ((leI (0:Int) i')&&(eY i' ((yS.length:Nat):Int))) then bif ((leI (0:Int) (IntKind.i64.wrap (i'-(1:Int))))&&(eY (IntKind.i64.wrap (i'-(1:Int))) ((IB.length:Nat):Int))) then bif ((leI (0:Int) i')&&(eY i' ((IB.length:Nat):Int))) then(C 94 [.p (.agg [.int .i64 (((yS.getD ((IntKind.i64.wrap (i'-(1:Int))).toNat) .nil).cell 0).toInt),.int .i64 (((yS.getD ((IntKind.i64.wrap (i'-(1:Int))).toNat) .nil).cell 1).toInt),.int .i64 (((yS.getD ((IntKind.i64.wrap (i'-(1:Int))).toNat) .nil).cell 2).toInt)]),.p (.agg [.int .i64 (((yS.getD i'.toNat .nil).cell 0).toInt),.int .i64 (((yS.getD i'.toNat .nil).cell 1).toInt),.int .i64 (((yS.getD i'.toNat .nil).cell 2).toInt)]),.p (.int .i64 (((IB.getD ((IntKind.i64.wrap (i'-(1:Int))).toNat) .nil).cell 0).toInt)),.p (.int .i64 (((IB.getD i'.toNat .nil).cell 0).toInt)),.p (.int .i64 2)] []).bind fun r1 =>
  fork (some ([],[.log false (dW++([.agg [.agg [.int .i64 (((r1.1.headD .undef).pv.cell 0).toInt),.int .i64 (((r1.1.headD .undef).pv.cell 1).toInt),.int .i64 (((r1.1.headD .undef).pv.cell 2).toInt),.list false [.int .i64] (((r1.1.headD .undef).pv.cell 3).toList),.list false [.int .i64] (((r1.1.headD .undef).pv.cell 4).toList),.list false [.int .i64] (((r1.1.headD .undef).pv.cell 5).toList)]]]:List PV))])) <|
  L tab C 103 [.log true []] [.lp [1,0]] (PW yS IB (IntKind.i64.wrap (i'+(1:Int))) (dW++([.agg [.agg [.int .i64 (((r1.1.headD .undef).pv.cell 0).toInt),.int .i64 (((r1.1.headD .undef).pv.cell 1).toInt),.int .i64 (((r1.1.headD .undef).pv.cell 2).toInt),.list false [.int .i64] (((r1.1.headD .undef).pv.cell 3).toList),.list false [.int .i64] (((r1.1.headD .undef).pv.cell 4).toList),.list false [.int .i64] (((r1.1.headD .undef).pv.cell 5).toList)]]]:List PV))) else none else none else none else none
 else
  some ([],[.log true dW]):=by kernel_rfl
end Go.Skm.Prg
