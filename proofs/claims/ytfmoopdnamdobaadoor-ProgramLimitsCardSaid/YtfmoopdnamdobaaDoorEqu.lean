/-
  What the machine does in each function of this program, and in each round of each loop; no condition.
-/
import Derived.Test.YtfmoopdnamdobaaDoorSkmF
import Derived.Test.YtfmoopdnamdobaaDoorTab
import Derived.KernelRfl
set_option maxRecDepth 100000
namespace Go.Skm.Prg
open Go Go.Skm
def S10_1111010n (at_' t25' t26':Int)(p_b0 p_b1:List PV)(b2_b0:Bool)(b22_b:List PV)(many_b0_o many_b0_l:Nat):St:=⟨.undef::(.ptr 1 0 0)::(.ptr 2 0 0)::(.p (.int .i64 at_'))::(.ptr 4 0 0)::.undef::.undef::.undef::.undef::.undef::.undef::.undef::.undef::.undef::.undef::.undef::.undef::.undef::.undef::.undef::.undef::.undef::.undef::.undef::(.p (.nil))::(.p (.int .i64 t25'))::(.p (.int .i64 t26'))::List.replicate 59 .undef,[(1,.box [.p (.list false [.str] p_b0),.p (.list true kV3 p_b1),.p (.nil)]),(2,.box [.p (.bool b2_b0)]),(22,.arr false [.int .i64] b22_b),(4,.box [.slice 22 1 many_b0_o many_b0_l])]⟩
theorem e10n (C:CallF) (p_0 p_1:List PV):acallI tab C 10 [.p (.agg [.list false [.str] p_0,.list true kV3 p_1,.nil])] [] =
 (C 36 [.p (.agg [.list false [.str] p_0,.list true kV3 p_1,.nil])] []).bind fun r1 =>
 bif (!(r1.1.headD .undef).pv.toBool) then
  some ([.p (.bool false)],[])
 else
  bif ((leI (0:Int) ((p_0.length:Nat):Int))&&((leI ((p_0.length:Nat):Int) ((p_0.length:Nat):Int))&&(leI ((p_0.length:Nat):Int) (2147483648:Int)))) then L tab C 10 [] [.lp [1,1,1,1,0,1,0]] (S10_1111010n 0 0 0 p_0 p_1 false (List.replicate (((p_0.length:Nat):Int).toNat) (PV.int .i64 0)) 0 (((p_0.length:Nat):Int).toNat)) else none:=by kernel_rfl
theorem e10_1111010n (C:CallF) (at_' t25' t26':Int)(p_b0 p_b1:List PV)(b2_b0:Bool)(b22_b:List PV)(many_b0_o many_b0_l:Nat):R tab C 10 [] [.lp [1,1,1,1,0,1,0]] (S10_1111010n at_' t25' t26' p_b0 p_b1 b2_b0 b22_b many_b0_o many_b0_l) =
 bif (ltI t26' t25') then
  none
 else
  some ([.p (.bool true)],[]):=by kernel_rfl
def S36_1111010n (t27':List PV)(t28' t29':Int)(p_b0 p_b1:List PV) (b24_b:List (PV × PV)) (b25_b:List (PV × PV)):St:=⟨.undef::(.ptr 1 0 0)::.undef::.undef::(.mref 24)::(.mref 25)::.undef::.undef::.undef::.undef::.undef::.undef::.undef::.undef::.undef::.undef::.undef::.undef::.undef::.undef::.undef::.undef::.undef::.undef::.undef::.undef::.undef::(.p (.list false [.str] t27'))::(.p (.int .i64 t28'))::(.p (.int .i64 t29'))::List.replicate 41 .undef,[(1,.box [.p (.list false [.str] p_b0),.p (.list true kV3 p_b1),.p (.nil)]),(24,.mp 98 b24_b),(25,.mp 99 b25_b)]⟩
theorem e36n (C:CallF) (p_0 p_1:List PV):acallI tab C 36 [.p (.agg [.list false [.str] p_0,.list true kV3 p_1,.nil])] [] =
 bif (ltI ((p_0.length:Nat):Int) (1:Int)) then
  some ([.p (.bool false)],[])
 else
  bif (gtI ((p_0.length:Nat):Int) (64:Int)) then
   some ([.p (.bool false)],[])
  else
   bif (((p_1.length:Nat):Int) != ((p_0.length:Nat):Int)) then
    some ([.p (.bool false)],[])
   else
    L tab C 36 [] [.lp [1,1,1,1,0,1,0]] (S36_1111010n p_0 ((p_0.length:Nat):Int) 0 p_0 p_1 ([]:List (PV × PV)) ([]:List (PV × PV))):=by kernel_rfl
theorem e36_1111010n (C:CallF) (t27':List PV)(t28' t29':Int)(p_b0 p_b1:List PV) (b24_b:List (PV × PV)) (b25_b:List (PV × PV)):R tab C 36 [] [.lp [1,1,1,1,0,1,0]] (S36_1111010n t27' t28' t29' p_b0 p_b1 b24_b b25_b) =
 bif (ltI t29' t28') then
  bif ((leI (0:Int) t29')&&(ltI t29' ((t27'.length:Nat):Int))) then(C 37 [.p (.str (((t27'.getD t29'.toNat .nil).cell 0).toStr))] []).bind fun r1 =>
  bif (!(r1.1.headD .undef).pv.toBool) then
   some ([.p (.bool false)],[])
  else
   bif (keyFind tab 9 (PV.str (((t27'.getD t29'.toNat .nil).cell 0).toStr)) b24_b).isSome then bif (kindOk (.bool) (mapAt (PV.bool false) b24_b ((keyFind tab 9 (PV.str (((t27'.getD t29'.toNat .nil).cell 0).toStr)) b24_b).getD none))) then bif (mapAt (PV.bool false) b24_b ((keyFind tab 9 (PV.str (((t27'.getD t29'.toNat .nil).cell 0).toStr)) b24_b).getD none)).toBool then
    some ([.p (.bool false)],[])
   else
    bif ((leI (0:Int) t29')&&(ltI t29' ((p_b1.length:Nat):Int))) then(C 58 [.p (.agg [.int .i64 (((p_b1.getD t29'.toNat .nil).cell 0).toInt),.int .i64 (((p_b1.getD t29'.toNat .nil).cell 1).toInt),.int .i64 (((p_b1.getD t29'.toNat .nil).cell 2).toInt)])] []).bind fun r2 =>
    bif (!(r2.1.headD .undef).pv.toBool) then
     some ([.p (.bool false)],[])
    else
     bif ((leI (0:Int) t29')&&(ltI t29' ((p_b1.length:Nat):Int))) then bif (keyFind tab 31 (PV.agg [.int .i64 (((p_b1.getD t29'.toNat .nil).cell 0).toInt),.int .i64 (((p_b1.getD t29'.toNat .nil).cell 1).toInt),.int .i64 (((p_b1.getD t29'.toNat .nil).cell 2).toInt)]) b25_b).isSome then bif (kindOk (.bool) (mapAt (PV.bool false) b25_b ((keyFind tab 31 (PV.agg [.int .i64 (((p_b1.getD t29'.toNat .nil).cell 0).toInt),.int .i64 (((p_b1.getD t29'.toNat .nil).cell 1).toInt),.int .i64 (((p_b1.getD t29'.toNat .nil).cell 2).toInt)]) b25_b).getD none))) then bif (mapAt (PV.bool false) b25_b ((keyFind tab 31 (PV.agg [.int .i64 (((p_b1.getD t29'.toNat .nil).cell 0).toInt),.int .i64 (((p_b1.getD t29'.toNat .nil).cell 1).toInt),.int .i64 (((p_b1.getD t29'.toNat .nil).cell 2).toInt)]) b25_b).getD none)).toBool then
      some ([.p (.bool false)],[])
     else
      bif ((leI (0:Int) t29')&&(ltI t29' ((p_b1.length:Nat):Int))) then bif (mapFindL tab 9 (PV.str (((t27'.getD t29'.toNat .nil).cell 0).toStr)) b24_b).isSome then bif (mapFind tab 31 [.int .i64 (((p_b1.getD t29'.toNat .nil).cell 0).toInt),.int .i64 (((p_b1.getD t29'.toNat .nil).cell 1).toInt),.int .i64 (((p_b1.getD t29'.toNat .nil).cell 2).toInt)] b25_b).isSome then bif ((leI (0:Int) (((((mapFind tab 31 [.int .i64 (((p_b1.getD t29'.toNat .nil).cell 0).toInt),.int .i64 (((p_b1.getD t29'.toNat .nil).cell 1).toInt),.int .i64 (((p_b1.getD t29'.toNat .nil).cell 2).toInt)] b25_b).getD none).getD b25_b.length:Nat)):Int))&&(ltN ((((((mapFind tab 31 [.int .i64 (((p_b1.getD t29'.toNat .nil).cell 0).toInt),.int .i64 (((p_b1.getD t29'.toNat .nil).cell 1).toInt),.int .i64 (((p_b1.getD t29'.toNat .nil).cell 2).toInt)] b25_b).getD none).getD b25_b.length:Nat)):Int).toNat) (mapPut b25_b (PV.agg [.int .i64 (((p_b1.getD t29'.toNat .nil).cell 0).toInt),.int .i64 (((p_b1.getD t29'.toNat .nil).cell 1).toInt),.int .i64 (((p_b1.getD t29'.toNat .nil).cell 2).toInt)]) (mapAt (PV.bool false) b25_b ((mapFind tab 31 [.int .i64 (((p_b1.getD t29'.toNat .nil).cell 0).toInt),.int .i64 (((p_b1.getD t29'.toNat .nil).cell 1).toInt),.int .i64 (((p_b1.getD t29'.toNat .nil).cell 2).toInt)] b25_b).getD none)) ((mapFind tab 31 [.int .i64 (((p_b1.getD t29'.toNat .nil).cell 0).toInt),.int .i64 (((p_b1.getD t29'.toNat .nil).cell 1).toInt),.int .i64 (((p_b1.getD t29'.toNat .nil).cell 2).toInt)] b25_b).getD none)).length)) then L tab C 36 [] [.lp [1,1,1,1,0,1,0]] (S36_1111010n t27' t28' (IntKind.i64.wrap (t29'+(1:Int))) p_b0 p_b1 (mapPut b24_b (PV.str (((t27'.getD t29'.toNat .nil).cell 0).toStr)) (PV.bool true) ((mapFindL tab 9 (PV.str (((t27'.getD t29'.toNat .nil).cell 0).toStr)) b24_b).getD none)) ((mapPut b25_b (PV.agg [.int .i64 (((p_b1.getD t29'.toNat .nil).cell 0).toInt),.int .i64 (((p_b1.getD t29'.toNat .nil).cell 1).toInt),.int .i64 (((p_b1.getD t29'.toNat .nil).cell 2).toInt)]) (mapAt (PV.bool false) b25_b ((mapFind tab 31 [.int .i64 (((p_b1.getD t29'.toNat .nil).cell 0).toInt),.int .i64 (((p_b1.getD t29'.toNat .nil).cell 1).toInt),.int .i64 (((p_b1.getD t29'.toNat .nil).cell 2).toInt)] b25_b).getD none)) ((mapFind tab 31 [.int .i64 (((p_b1.getD t29'.toNat .nil).cell 0).toInt),.int .i64 (((p_b1.getD t29'.toNat .nil).cell 1).toInt),.int .i64 (((p_b1.getD t29'.toNat .nil).cell 2).toInt)] b25_b).getD none)).set ((((((mapFind tab 31 [.int .i64 (((p_b1.getD t29'.toNat .nil).cell 0).toInt),.int .i64 (((p_b1.getD t29'.toNat .nil).cell 1).toInt),.int .i64 (((p_b1.getD t29'.toNat .nil).cell 2).toInt)] b25_b).getD none).getD b25_b.length:Nat)):Int).toNat) (((mapPut b25_b (PV.agg [.int .i64 (((p_b1.getD t29'.toNat .nil).cell 0).toInt),.int .i64 (((p_b1.getD t29'.toNat .nil).cell 1).toInt),.int .i64 (((p_b1.getD t29'.toNat .nil).cell 2).toInt)]) (mapAt (PV.bool false) b25_b ((mapFind tab 31 [.int .i64 (((p_b1.getD t29'.toNat .nil).cell 0).toInt),.int .i64 (((p_b1.getD t29'.toNat .nil).cell 1).toInt),.int .i64 (((p_b1.getD t29'.toNat .nil).cell 2).toInt)] b25_b).getD none)) ((mapFind tab 31 [.int .i64 (((p_b1.getD t29'.toNat .nil).cell 0).toInt),.int .i64 (((p_b1.getD t29'.toNat .nil).cell 1).toInt),.int .i64 (((p_b1.getD t29'.toNat .nil).cell 2).toInt)] b25_b).getD none)).getD ((((((mapFind tab 31 [.int .i64 (((p_b1.getD t29'.toNat .nil).cell 0).toInt),.int .i64 (((p_b1.getD t29'.toNat .nil).cell 1).toInt),.int .i64 (((p_b1.getD t29'.toNat .nil).cell 2).toInt)] b25_b).getD none).getD b25_b.length:Nat)):Int).toNat) (.nil,.nil)).1,(PV.bool true)))) else none else none else none else none else none else none else none else none else none else none else none
 else
  some ([.p (.bool true)],[]):=by kernel_rfl
end Go.Skm.Prg
