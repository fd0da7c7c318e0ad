/-
  What the machine does in each function of this program, and in each round of each loop; no condition.
-/
import Derived.Test.YtipkmkmngcjdbaaGreatDoorSkmE
import Derived.Test.YtipkmkmngcjdbaaGreatDoorTab
import Derived.KernelRfl
set_option maxRecDepth 100000
namespace Go.Skm.Fig
open Go Go.Skm
theorem e23 (C:aF) (FV v_1 FX:Int):bn tab C 23 [.p (.agg [.int .i64 FV,.int .i64 v_1,.int .i64 FX])] [] =
 (C 50 [.p (.agg [.int .i64 FV,.int .i64 v_1,.int .i64 FX]),.p (.int .i64 16777216)] []).bind fun r1 =>
 some ([.p (.bool ((r1.1.headD .undef).pv.toBool))],[]):=by kernel_rfl
def uy (f':List PV)(jH iJ:Nat)(i' iQ iR iT:Int)(jI:List PV):St:=⟨(.p (.list true gJ f'))::.undef::.undef::(.ptr 3 0 0)::.undef::.undef::(.slice 6 6 jH iJ)::(.p (.int .i64 i'))::List.replicate 47 .undef,[(3,.box [.p (.int .i64 iQ),.p (.int .i64 iR),.p (.int .i64 iT)]),(6,.arr true gJ jI)]⟩
def uU (f':List PV)(jH iJ:Nat)(i' k' iQ iR iT:Int)(jI:List PV)(iO jq jr jv jd:Int):St:=⟨(.p (.list true gJ f'))::.undef::.undef::(.ptr 3 0 0)::.undef::.undef::(.slice 6 6 jH iJ)::(.p (.int .i64 i'))::(.ptr 8 0 0)::(.p (.int .i64 k'))::List.replicate 45 .undef,[(3,.box [.p (.int .i64 iQ),.p (.int .i64 iR),.p (.int .i64 iT)]),(6,.arr true gJ jI),(8,.box [.p (.int .i64 iO),.p (.nil),.p (.int .i64 jq),.p (.int .i64 jr),.p (.int .i64 jv),.p (.int .i64 jd)])]⟩
def jA (f':List PV)(jH iJ:Nat)(i' k' iQ iR iT:Int)(jI:List PV)(iO:Int)(jB iK:Nat)(jq jr jv jd:Int)(BF:List PV):St:=⟨(.p (.list true gJ f'))::.undef::.undef::(.ptr 3 0 0)::.undef::.undef::(.slice 6 6 jH iJ)::(.p (.int .i64 i'))::(.ptr 8 0 0)::(.p (.int .i64 k'))::List.replicate 45 .undef,[(3,.box [.p (.int .i64 iQ),.p (.int .i64 iR),.p (.int .i64 iT)]),(6,.arr true gJ jI),(8,.box [.p (.int .i64 iO),.slice 5044 3 jB iK,.p (.int .i64 jq),.p (.int .i64 jr),.p (.int .i64 jv),.p (.int .i64 jd)]),(5044,.arr true gU BF)]⟩
theorem e24 (C:aF) (f:List PV)(sW sZ tq:Int):bn tab C 24 [.p (.list true gJ f),.p (.agg [.int .i64 sW,.int .i64 sZ,.int .i64 tq])] [] =
 L tab C 24 [] [.lp [1,1,0,1,0]] (uy f 0 0 0 sW sZ tq []):=by kernel_rfl
theorem Np (C:aF) (f':List PV)(jH iJ:Nat)(i' iQ iR iT:Int)(jI:List PV):R tab C 24 [] [.lp [1,1,0,1,0]] (uy f' jH iJ i' iQ iR iT jI) =
 bif (jo i' ((f'.length:Nat):Int)) then
  bif ((leI (0:Int) i')&&(jo i' ((f'.length:Nat):Int))) then L tab C 24 [] [.lp [1,1,0,1,0],.lp [1,0,0,1,1,0,1,0]] (uU f' jH iJ i' 0 iQ iR iT jI (((f'.getD i'.toNat .nil).cell 0).toInt) (((f'.getD i'.toNat .nil).cell 2).toInt) (((f'.getD i'.toNat .nil).cell 3).toInt) (((f'.getD i'.toNat .nil).cell 4).toInt) (((f'.getD i'.toNat .nil).cell 5).toInt)) else none
 else
  some ([.fresh true gJ ((jI.drop jH).take iJ),.p (.int .i64 0)],[]):=by kernel_rfl
theorem Dx (C:aF) (f':List PV)(jH iJ:Nat)(i' k' iQ iR iT:Int)(jI:List PV)(iO jq jr jv jd:Int):R tab C 24 [] [.lp [1,1,0,1,0],.lp [1,0,0,1,1,0,1,0]] (uU f' jH iJ i' k' iQ iR iT jI iO jq jr jv jd) =
 bif ((leI (0:Int) i')&&(jo i' ((f'.length:Nat):Int))) then bif (jo k' (((((f'.getD i'.toNat .nil).cell 1).toList).length:Nat):Int)) then
  bif ((leI (0:Int) i')&&(jo i' ((f'.length:Nat):Int))) then bif ((leI (0:Int) k')&&(jo k' (((((f'.getD i'.toNat .nil).cell 1).toList).length:Nat):Int))) then(C 26 [.p (.agg [.int .i64 ((((((f'.getD i'.toNat .nil).cell 1).toList).getD k'.toNat .nil).cell 0).toInt),.int .i64 ((((((f'.getD i'.toNat .nil).cell 1).toList).getD k'.toNat .nil).cell 1).toInt),.int .i64 ((((((f'.getD i'.toNat .nil).cell 1).toList).getD k'.toNat .nil).cell 2).toInt)]),.p (.agg [.int .i64 iQ,.int .i64 iR,.int .i64 iT])] []).bind fun r1 =>
  L tab C 24 [] [.lp [1,1,0,1,0],.lp [1,0,0,1,1,0,1,0]] (jA f' jH iJ i' (IntKind.i64.wrap (k'+(1:Int))) iQ iR iT jI iO 0 1 jq jr jv jd [.agg [.int .i64 (((r1.1.headD .undef).pv.cell 0).toInt),.int .i64 (((r1.1.headD .undef).pv.cell 1).toInt),.int .i64 (((r1.1.headD .undef).pv.cell 2).toInt)]]) else none else none
 else
  (C 37 [.p (.list true gU [])] []).bind fun r2 =>
  bif (!(r2.1.headD .undef).pv.toBool) then
   some ([.fresh true gJ [],.p (.int .i64 3)],[])
  else
   bif (Qr (iJ+1) 2147483648) then L tab C 24 [] [.lp [1,1,0,1,0]] (uy f' 0 (iJ+1) (IntKind.i64.wrap (i'+(1:Int))) iQ iR iT (((jI.drop jH).take iJ)++([.agg [.int .i64 iO,.nil,.int .i64 jq,.int .i64 jr,.int .i64 jv,.int .i64 jd]]:List PV))) else none else none:=by kernel_rfl
theorem qG (C:aF) (f':List PV)(jH iJ:Nat)(i' k' iQ iR iT:Int)(jI:List PV)(iO:Int)(jB iK:Nat)(jq jr jv jd:Int)(BF:List PV):R tab C 24 [] [.lp [1,1,0,1,0],.lp [1,0,0,1,1,0,1,0]] (jA f' jH iJ i' k' iQ iR iT jI iO jB iK jq jr jv jd BF) =
 bif ((leI (0:Int) i')&&(jo i' ((f'.length:Nat):Int))) then bif (jo k' (((((f'.getD i'.toNat .nil).cell 1).toList).length:Nat):Int)) then
  bif ((leI (0:Int) i')&&(jo i' ((f'.length:Nat):Int))) then bif ((leI (0:Int) k')&&(jo k' (((((f'.getD i'.toNat .nil).cell 1).toList).length:Nat):Int))) then(C 26 [.p (.agg [.int .i64 ((((((f'.getD i'.toNat .nil).cell 1).toList).getD k'.toNat .nil).cell 0).toInt),.int .i64 ((((((f'.getD i'.toNat .nil).cell 1).toList).getD k'.toNat .nil).cell 1).toInt),.int .i64 ((((((f'.getD i'.toNat .nil).cell 1).toList).getD k'.toNat .nil).cell 2).toInt)]),.p (.agg [.int .i64 iQ,.int .i64 iR,.int .i64 iT])] []).bind fun r1 =>
  bif (Qr (iK+1) 2147483648) then L tab C 24 [] [.lp [1,1,0,1,0],.lp [1,0,0,1,1,0,1,0]] (jA f' jH iJ i' (IntKind.i64.wrap (k'+(1:Int))) iQ iR iT jI iO 0 (iK+1) jq jr jv jd (((BF.drop jB).take iK)++([.agg [.int .i64 (((r1.1.headD .undef).pv.cell 0).toInt),.int .i64 (((r1.1.headD .undef).pv.cell 1).toInt),.int .i64 (((r1.1.headD .undef).pv.cell 2).toInt)]]:List PV))) else none else none else none
 else
  (C 37 [.p (.list true gU ((BF.drop jB).take iK))] []).bind fun r2 =>
  bif (!(r2.1.headD .undef).pv.toBool) then
   some ([.fresh true gJ [],.p (.int .i64 3)],[])
  else
   bif (Qr (iJ+1) 2147483648) then L tab C 24 [] [.lp [1,1,0,1,0]] (uy f' 0 (iJ+1) (IntKind.i64.wrap (i'+(1:Int))) iQ iR iT (((jI.drop jH).take iJ)++([.agg [.int .i64 iO,.list true gU ((BF.drop jB).take iK),.int .i64 jq,.int .i64 jr,.int .i64 jv,.int .i64 jd]]:List PV))) else none else none:=by kernel_rfl
end Go.Skm.Fig
