/-
  What the machine does in each function of this program, and in each round of each loop; no condition.
-/
import Derived.Test.YtfmoopdnamdobaaDoorSkmF
import Derived.Test.YtfmoopdnamdobaaDoorTab
import Derived.KernelRfl
set_option maxRecDepth 100000
namespace Go.Skm.Prg
open Go Go.Skm
def S32_11010 (t18' t19':Int)(p_b0 p_b1:List PV)(p_b2_o p_b2_l:Nat)(b12_b:List PV):St:=⟨.undef::(.ptr 1 0 0)::(.ptr 2 0 0)::.undef::.undef::.undef::.undef::.undef::.undef::.undef::.undef::.undef::.undef::.undef::.undef::.undef::.undef::.undef::(.p (.int .i64 t18'))::(.p (.int .i64 t19'))::List.replicate 16 .undef,[(1,.box [.p (.list false [.str] p_b0),.p (.list true kV3 p_b1),.slice 12 3 p_b2_o p_b2_l]),(2,.box [.p (.nil),.p (.nil),.p (.nil)]),(12,.arr true kAc b12_b)]⟩
theorem e32 (C:CallF) (p_0 p_1 p_2:List PV):acallI tab C 32 [.p (.agg [.list false [.str] p_0,.list true kV3 p_1,.list true kAc p_2])] [] =
 (C 54 [.p (.list false [.str] p_0)] []).bind fun r1 =>
 (C 55 [.p (.list true kV3 p_1)] []).bind fun r2 =>
 (C 56 [.p (.list true kAc p_2)] []).bind fun r3 =>
 L tab C 32 [] [.lp [1,1,0,1,0]] (S32_11010 (((r3.1.headD .undef).freshList.length:Nat):Int) 0 ((r1.1.headD .undef).pv.toList) ((r2.1.headD .undef).pv.toList) 0 ((r3.1.headD .undef).freshList.length) ((r3.1.headD .undef).freshList)):=by kernel_rfl
theorem e32_11010 (C:CallF) (t18' t19':Int)(p_b0 p_b1:List PV)(p_b2_o p_b2_l:Nat)(b12_b:List PV):R tab C 32 [] [.lp [1,1,0,1,0]] (S32_11010 t18' t19' p_b0 p_b1 p_b2_o p_b2_l b12_b) =
 bif (ltI t19' t18') then
  bif ((leI (0:Int) t19')&&(ltI t19' (p_b2_l:Int))) then(C 45 [.p (.list true kMv (((b12_b.getD (p_b2_o+t19'.toNat) .nil).cell 2).toList))] []).bind fun r1 =>
  bif ((leI (0:Int) t19')&&(ltI t19' (p_b2_l:Int))) then L tab C 32 [] [.lp [1,1,0,1,0]] (S32_11010 t18' (IntKind.i64.wrap (t19'+(1:Int))) p_b0 p_b1 p_b2_o p_b2_l (b12_b.set (p_b2_o+t19'.toNat) (PV.agg [.str (((b12_b.getD (p_b2_o+t19'.toNat) .nil).cell 0).toStr),.int .i64 (((b12_b.getD (p_b2_o+t19'.toNat) .nil).cell 1).toInt),.list true kMv ((r1.1.headD .undef).pv.toList)]))) else none else none
 else
  some ([.agg [.p (.list false [.str] p_b0),.p (.list true kV3 p_b1),.fresh true kAc ((b12_b.drop p_b2_o).take p_b2_l)]],[]):=by kernel_rfl
theorem e33 (C:CallF) :acallI tab C 33 [] [] =
 (C 9 [.p (.int .i64 0),.p (.int .i64 0),.p (.int .i64 0)] []).bind fun r1 =>
 (C 9 [.p (.int .i64 500),.p (.int .i64 0),.p (.int .i64 0)] []).bind fun r2 =>
 (C 9 [.p (.int .i64 0),.p (.int .i64 0),.p (.int .i64 300)] []).bind fun r3 =>
 (C 9 [.p (.int .i64 500),.p (.int .i64 0),.p (.int .i64 300)] []).bind fun r4 =>
 some ([.p (.agg [.list false [.str] [.str ⟨#[97]⟩,.str ⟨#[98]⟩],.list true kV3 [.agg [.int .i64 (((r1.1.headD .undef).pv.cell 0).toInt),.int .i64 (((r1.1.headD .undef).pv.cell 1).toInt),.int .i64 (((r1.1.headD .undef).pv.cell 2).toInt)],.agg [.int .i64 (((r2.1.headD .undef).pv.cell 0).toInt),.int .i64 (((r2.1.headD .undef).pv.cell 1).toInt),.int .i64 (((r2.1.headD .undef).pv.cell 2).toInt)]],.list true kAc [.agg [.str ⟨#[117,112]⟩,.int .i64 5000,.list true kMv [.agg [.int .i64 (((r3.1.headD .undef).pv.cell 0).toInt),.int .i64 (((r3.1.headD .undef).pv.cell 1).toInt),.int .i64 (((r3.1.headD .undef).pv.cell 2).toInt),.int .i64 0,.int .i64 4000,.int .i64 0],.agg [.int .i64 (((r4.1.headD .undef).pv.cell 0).toInt),.int .i64 (((r4.1.headD .undef).pv.cell 1).toInt),.int .i64 (((r4.1.headD .undef).pv.cell 2).toInt),.int .i64 1000,.int .i64 4000,.int .i64 0]]]]])],[]):=by kernel_rfl
theorem e34 (C:CallF) (p_0 p_1 p_2:List PV):acallI tab C 34 [.p (.agg [.list false [.str] p_0,.list true kV3 p_1,.list true kAc p_2])] [] =
 (C 10 [.p (.agg [.list false [.str] p_0,.list true kV3 p_1,.list true kAc p_2])] []).bind fun r1 =>
 bif (!(r1.1.headD .undef).pv.toBool) then
  some ([.p (.str ⟨#[]⟩),.p (.int .i64 2)],[])
 else
  (C 57 [.p (.agg [.list false [.str] p_0,.list true kV3 p_1,.list true kAc p_2])] []).bind fun r2 =>
  some ([.p (.str ((r2.1.headD .undef).pv.toStr)),.p (.int .i64 0)],[]):=by kernel_rfl
theorem e35 (C:CallF) :acallI tab C 35 [] [] =
 some ([.p (.str ⟨#[97,105,114,99,114,97,102,116,32,97,32,48,32,48,32,48,10,97,105,114,99,114,97,102,116,32,98,32,53,48,48,32,48,32,48,10,97,99,116,32,117,112,32,53,48,48,48,10,109,111,118,101,32,48,32,48,32,51,48,48,32,48,32,52,48,48,48,32,48,10,109,111,118,101,32,53,48,48,32,48,32,51,48,48,32,49,48,48,48,32,52,48,48,48,32,48,10]⟩)],[]):=by kernel_rfl
def S36_1111010 (t27':List PV)(t28' t29':Int)(p_b0 p_b1 p_b2:List PV) (b24_b:List (PV × PV)) (b25_b:List (PV × PV)):St:=⟨.undef::(.ptr 1 0 0)::.undef::.undef::(.mref 24)::(.mref 25)::.undef::.undef::.undef::.undef::.undef::.undef::.undef::.undef::.undef::.undef::.undef::.undef::.undef::.undef::.undef::.undef::.undef::.undef::.undef::.undef::.undef::(.p (.list false [.str] t27'))::(.p (.int .i64 t28'))::(.p (.int .i64 t29'))::List.replicate 41 .undef,[(1,.box [.p (.list false [.str] p_b0),.p (.list true kV3 p_b1),.p (.list true kAc p_b2)]),(24,.mp 98 b24_b),(25,.mp 99 b25_b)]⟩
theorem e36 (C:CallF) (p_0 p_1 p_2:List PV):acallI tab C 36 [.p (.agg [.list false [.str] p_0,.list true kV3 p_1,.list true kAc p_2])] [] =
 bif (ltI ((p_0.length:Nat):Int) (1:Int)) then
  some ([.p (.bool false)],[])
 else
  bif (gtI ((p_0.length:Nat):Int) (64:Int)) then
   some ([.p (.bool false)],[])
  else
   bif (((p_1.length:Nat):Int) != ((p_0.length:Nat):Int)) then
    some ([.p (.bool false)],[])
   else
    L tab C 36 [] [.lp [1,1,1,1,0,1,0]] (S36_1111010 p_0 ((p_0.length:Nat):Int) 0 p_0 p_1 p_2 ([]:List (PV × PV)) ([]:List (PV × PV))):=by kernel_rfl
theorem e36_1111010 (C:CallF) (t27':List PV)(t28' t29':Int)(p_b0 p_b1 p_b2:List PV) (b24_b:List (PV × PV)) (b25_b:List (PV × PV)):R tab C 36 [] [.lp [1,1,1,1,0,1,0]] (S36_1111010 t27' t28' t29' p_b0 p_b1 p_b2 b24_b b25_b) =
 bif (ltI t29' t28') then
  bif ((leI (0:Int) t29')&&(ltI t29' ((t27'.length:Nat):Int))) then(C 37 [.p (.str (((t27'.getD t29'.toNat .nil).cell 0).toStr))] []).bind fun r1 =>
  bif (!(r1.1.headD .undef).pv.toBool) then
   some ([.p (.bool false)],[])
  else
   bif (keyFind tab 9 (PV.str (((t27'.getD t29'.toNat .nil).cell 0).toStr)) b24_b).isSome then bif (kindOk (.bool) (mapAt (PV.bool false) b24_b ((keyFind tab 9 (PV.str (((t27'.getD t29'.toNat .nil).cell 0).toStr)) b24_b).getD none))) then bif (mapAt (PV.bool false) b24_b ((keyFind tab 9 (PV.str (((t27'.getD t29'.toNat .nil).cell 0).toStr)) b24_b).getD none)).toBool then
    some ([.p (.bool false)],[])
   else
    bif ((leI (0:Int) t29')&&(ltI t29' ((p_b1.length:Nat):Int))) then(C 58 [.p (.agg [.int .i64 (((p_b1.getD t29'.toNat .nil).cell 0).toInt),.int .i64 (((p_b1.getD t29'.toNat .nil).cell 1).toInt),.int .i64 (((p_b1.getD t29'.toNat .nil).cell 2).toInt)])] []).bind fun r2 =>
    bif (!(r2.1.headD .undef).pv.toBool) then
     some ([.p (.bool false)],[])
    else
     bif ((leI (0:Int) t29')&&(ltI t29' ((p_b1.length:Nat):Int))) then bif (keyFind tab 31 (PV.agg [.int .i64 (((p_b1.getD t29'.toNat .nil).cell 0).toInt),.int .i64 (((p_b1.getD t29'.toNat .nil).cell 1).toInt),.int .i64 (((p_b1.getD t29'.toNat .nil).cell 2).toInt)]) b25_b).isSome then bif (kindOk (.bool) (mapAt (PV.bool false) b25_b ((keyFind tab 31 (PV.agg [.int .i64 (((p_b1.getD t29'.toNat .nil).cell 0).toInt),.int .i64 (((p_b1.getD t29'.toNat .nil).cell 1).toInt),.int .i64 (((p_b1.getD t29'.toNat .nil).cell 2).toInt)]) b25_b).getD none))) then bif (mapAt (PV.bool false) b25_b ((keyFind tab 31 (PV.agg [.int .i64 (((p_b1.getD t29'.toNat .nil).cell 0).toInt),.int .i64 (((p_b1.getD t29'.toNat .nil).cell 1).toInt),.int .i64 (((p_b1.getD t29'.toNat .nil).cell 2).toInt)]) b25_b).getD none)).toBool then
      some ([.p (.bool false)],[])
     else
      bif ((leI (0:Int) t29')&&(ltI t29' ((p_b1.length:Nat):Int))) then bif (mapFindL tab 9 (PV.str (((t27'.getD t29'.toNat .nil).cell 0).toStr)) b24_b).isSome then bif (mapFind tab 31 [.int .i64 (((p_b1.getD t29'.toNat .nil).cell 0).toInt),.int .i64 (((p_b1.getD t29'.toNat .nil).cell 1).toInt),.int .i64 (((p_b1.getD t29'.toNat .nil).cell 2).toInt)] b25_b).isSome then bif ((leI (0:Int) (((((mapFind tab 31 [.int .i64 (((p_b1.getD t29'.toNat .nil).cell 0).toInt),.int .i64 (((p_b1.getD t29'.toNat .nil).cell 1).toInt),.int .i64 (((p_b1.getD t29'.toNat .nil).cell 2).toInt)] b25_b).getD none).getD b25_b.length:Nat)):Int))&&(ltN ((((((mapFind tab 31 [.int .i64 (((p_b1.getD t29'.toNat .nil).cell 0).toInt),.int .i64 (((p_b1.getD t29'.toNat .nil).cell 1).toInt),.int .i64 (((p_b1.getD t29'.toNat .nil).cell 2).toInt)] b25_b).getD none).getD b25_b.length:Nat)):Int).toNat) (mapPut b25_b (PV.agg [.int .i64 (((p_b1.getD t29'.toNat .nil).cell 0).toInt),.int .i64 (((p_b1.getD t29'.toNat .nil).cell 1).toInt),.int .i64 (((p_b1.getD t29'.toNat .nil).cell 2).toInt)]) (mapAt (PV.bool false) b25_b ((mapFind tab 31 [.int .i64 (((p_b1.getD t29'.toNat .nil).cell 0).toInt),.int .i64 (((p_b1.getD t29'.toNat .nil).cell 1).toInt),.int .i64 (((p_b1.getD t29'.toNat .nil).cell 2).toInt)] b25_b).getD none)) ((mapFind tab 31 [.int .i64 (((p_b1.getD t29'.toNat .nil).cell 0).toInt),.int .i64 (((p_b1.getD t29'.toNat .nil).cell 1).toInt),.int .i64 (((p_b1.getD t29'.toNat .nil).cell 2).toInt)] b25_b).getD none)).length)) then L tab C 36 [] [.lp [1,1,1,1,0,1,0]] (S36_1111010 t27' t28' (IntKind.i64.wrap (t29'+(1:Int))) p_b0 p_b1 p_b2 (mapPut b24_b (PV.str (((t27'.getD t29'.toNat .nil).cell 0).toStr)) (PV.bool true) ((mapFindL tab 9 (PV.str (((t27'.getD t29'.toNat .nil).cell 0).toStr)) b24_b).getD none)) ((mapPut b25_b (PV.agg [.int .i64 (((p_b1.getD t29'.toNat .nil).cell 0).toInt),.int .i64 (((p_b1.getD t29'.toNat .nil).cell 1).toInt),.int .i64 (((p_b1.getD t29'.toNat .nil).cell 2).toInt)]) (mapAt (PV.bool false) b25_b ((mapFind tab 31 [.int .i64 (((p_b1.getD t29'.toNat .nil).cell 0).toInt),.int .i64 (((p_b1.getD t29'.toNat .nil).cell 1).toInt),.int .i64 (((p_b1.getD t29'.toNat .nil).cell 2).toInt)] b25_b).getD none)) ((mapFind tab 31 [.int .i64 (((p_b1.getD t29'.toNat .nil).cell 0).toInt),.int .i64 (((p_b1.getD t29'.toNat .nil).cell 1).toInt),.int .i64 (((p_b1.getD t29'.toNat .nil).cell 2).toInt)] b25_b).getD none)).set ((((((mapFind tab 31 [.int .i64 (((p_b1.getD t29'.toNat .nil).cell 0).toInt),.int .i64 (((p_b1.getD t29'.toNat .nil).cell 1).toInt),.int .i64 (((p_b1.getD t29'.toNat .nil).cell 2).toInt)] b25_b).getD none).getD b25_b.length:Nat)):Int).toNat) (((mapPut b25_b (PV.agg [.int .i64 (((p_b1.getD t29'.toNat .nil).cell 0).toInt),.int .i64 (((p_b1.getD t29'.toNat .nil).cell 1).toInt),.int .i64 (((p_b1.getD t29'.toNat .nil).cell 2).toInt)]) (mapAt (PV.bool false) b25_b ((mapFind tab 31 [.int .i64 (((p_b1.getD t29'.toNat .nil).cell 0).toInt),.int .i64 (((p_b1.getD t29'.toNat .nil).cell 1).toInt),.int .i64 (((p_b1.getD t29'.toNat .nil).cell 2).toInt)] b25_b).getD none)) ((mapFind tab 31 [.int .i64 (((p_b1.getD t29'.toNat .nil).cell 0).toInt),.int .i64 (((p_b1.getD t29'.toNat .nil).cell 1).toInt),.int .i64 (((p_b1.getD t29'.toNat .nil).cell 2).toInt)] b25_b).getD none)).getD ((((((mapFind tab 31 [.int .i64 (((p_b1.getD t29'.toNat .nil).cell 0).toInt),.int .i64 (((p_b1.getD t29'.toNat .nil).cell 1).toInt),.int .i64 (((p_b1.getD t29'.toNat .nil).cell 2).toInt)] b25_b).getD none).getD b25_b.length:Nat)):Int).toNat) (.nil,.nil)).1,(PV.bool true)))) else none else none else none else none else none else none else none else none else none else none else none
 else
  some ([.p (.bool true)],[]):=by kernel_rfl
def S37_1010 (s':ByteArray)(t6' t7':Int):St:=⟨(.p (.str s'))::.undef::.undef::.undef::.undef::.undef::(.p (.int .i64 t6'))::(.p (.int .i64 t7'))::List.replicate 48 .undef,[]⟩
theorem e37 (C:CallF) (s:ByteArray):acallI tab C 37 [.p (.str s)] [] =
 L tab C 37 [] [.lp [1,0,1,0]] (S37_1010 s ((s.size:Nat):Int) 0):=by kernel_rfl
theorem e37_1010 (C:CallF) (s':ByteArray)(t6' t7':Int):R tab C 37 [] [.lp [1,0,1,0]] (S37_1010 s' t6' t7') =
 bif (ltI t7' t6') then
  bif ((leI (0:Int) t7')&&(ltI t7' (s'.size:Int))) then bif (geI ((s'.data.getD t7'.toNat 0).toNat:Int) (97:Int)) then
   bif (leI ((s'.data.getD t7'.toNat 0).toNat:Int) (122:Int)) then
    L tab C 37 [] [.lp [1,0,1,0]] (S37_1010 s' t6' (IntKind.i64.wrap (t7'+(1:Int))))
   else
    bif (geI ((s'.data.getD t7'.toNat 0).toNat:Int) (65:Int)) then
     bif (leI ((s'.data.getD t7'.toNat 0).toNat:Int) (90:Int)) then
      L tab C 37 [] [.lp [1,0,1,0]] (S37_1010 s' t6' (IntKind.i64.wrap (t7'+(1:Int))))
     else
      bif (gtI t7' (0:Int)) then
       bif (geI ((s'.data.getD t7'.toNat 0).toNat:Int) (48:Int)) then
        bif (leI ((s'.data.getD t7'.toNat 0).toNat:Int) (57:Int)) then
         L tab C 37 [] [.lp [1,0,1,0]] (S37_1010 s' t6' (IntKind.i64.wrap (t7'+(1:Int))))
        else
         bif (((s'.data.getD t7'.toNat 0).toNat:Int)==(45:Int)) then
          L tab C 37 [] [.lp [1,0,1,0]] (S37_1010 s' t6' (IntKind.i64.wrap (t7'+(1:Int))))
         else
          bif (((s'.data.getD t7'.toNat 0).toNat:Int)==(95:Int)) then
           L tab C 37 [] [.lp [1,0,1,0]] (S37_1010 s' t6' (IntKind.i64.wrap (t7'+(1:Int))))
          else
           some ([.p (.bool false)],[])
       else
        bif (((s'.data.getD t7'.toNat 0).toNat:Int)==(45:Int)) then
         L tab C 37 [] [.lp [1,0,1,0]] (S37_1010 s' t6' (IntKind.i64.wrap (t7'+(1:Int))))
        else
         bif (((s'.data.getD t7'.toNat 0).toNat:Int)==(95:Int)) then
          L tab C 37 [] [.lp [1,0,1,0]] (S37_1010 s' t6' (IntKind.i64.wrap (t7'+(1:Int))))
         else
          some ([.p (.bool false)],[])
      else
       some ([.p (.bool false)],[])
    else
     bif (gtI t7' (0:Int)) then
      bif (geI ((s'.data.getD t7'.toNat 0).toNat:Int) (48:Int)) then
       bif (leI ((s'.data.getD t7'.toNat 0).toNat:Int) (57:Int)) then
        L tab C 37 [] [.lp [1,0,1,0]] (S37_1010 s' t6' (IntKind.i64.wrap (t7'+(1:Int))))
       else
        bif (((s'.data.getD t7'.toNat 0).toNat:Int)==(45:Int)) then
         L tab C 37 [] [.lp [1,0,1,0]] (S37_1010 s' t6' (IntKind.i64.wrap (t7'+(1:Int))))
        else
         bif (((s'.data.getD t7'.toNat 0).toNat:Int)==(95:Int)) then
          L tab C 37 [] [.lp [1,0,1,0]] (S37_1010 s' t6' (IntKind.i64.wrap (t7'+(1:Int))))
         else
          some ([.p (.bool false)],[])
      else
       bif (((s'.data.getD t7'.toNat 0).toNat:Int)==(45:Int)) then
        L tab C 37 [] [.lp [1,0,1,0]] (S37_1010 s' t6' (IntKind.i64.wrap (t7'+(1:Int))))
       else
        bif (((s'.data.getD t7'.toNat 0).toNat:Int)==(95:Int)) then
         L tab C 37 [] [.lp [1,0,1,0]] (S37_1010 s' t6' (IntKind.i64.wrap (t7'+(1:Int))))
        else
         some ([.p (.bool false)],[])
     else
      some ([.p (.bool false)],[])
  else
   bif (geI ((s'.data.getD t7'.toNat 0).toNat:Int) (65:Int)) then
    bif (leI ((s'.data.getD t7'.toNat 0).toNat:Int) (90:Int)) then
     L tab C 37 [] [.lp [1,0,1,0]] (S37_1010 s' t6' (IntKind.i64.wrap (t7'+(1:Int))))
    else
     bif (gtI t7' (0:Int)) then
      bif (geI ((s'.data.getD t7'.toNat 0).toNat:Int) (48:Int)) then
       bif (leI ((s'.data.getD t7'.toNat 0).toNat:Int) (57:Int)) then
        L tab C 37 [] [.lp [1,0,1,0]] (S37_1010 s' t6' (IntKind.i64.wrap (t7'+(1:Int))))
       else
        bif (((s'.data.getD t7'.toNat 0).toNat:Int)==(45:Int)) then
         L tab C 37 [] [.lp [1,0,1,0]] (S37_1010 s' t6' (IntKind.i64.wrap (t7'+(1:Int))))
        else
         bif (((s'.data.getD t7'.toNat 0).toNat:Int)==(95:Int)) then
          L tab C 37 [] [.lp [1,0,1,0]] (S37_1010 s' t6' (IntKind.i64.wrap (t7'+(1:Int))))
         else
          some ([.p (.bool false)],[])
      else
       bif (((s'.data.getD t7'.toNat 0).toNat:Int)==(45:Int)) then
        L tab C 37 [] [.lp [1,0,1,0]] (S37_1010 s' t6' (IntKind.i64.wrap (t7'+(1:Int))))
       else
        bif (((s'.data.getD t7'.toNat 0).toNat:Int)==(95:Int)) then
         L tab C 37 [] [.lp [1,0,1,0]] (S37_1010 s' t6' (IntKind.i64.wrap (t7'+(1:Int))))
        else
         some ([.p (.bool false)],[])
     else
      some ([.p (.bool false)],[])
   else
    bif (gtI t7' (0:Int)) then
     bif (geI ((s'.data.getD t7'.toNat 0).toNat:Int) (48:Int)) then
      bif (leI ((s'.data.getD t7'.toNat 0).toNat:Int) (57:Int)) then
       L tab C 37 [] [.lp [1,0,1,0]] (S37_1010 s' t6' (IntKind.i64.wrap (t7'+(1:Int))))
      else
       bif (((s'.data.getD t7'.toNat 0).toNat:Int)==(45:Int)) then
        L tab C 37 [] [.lp [1,0,1,0]] (S37_1010 s' t6' (IntKind.i64.wrap (t7'+(1:Int))))
       else
        bif (((s'.data.getD t7'.toNat 0).toNat:Int)==(95:Int)) then
         L tab C 37 [] [.lp [1,0,1,0]] (S37_1010 s' t6' (IntKind.i64.wrap (t7'+(1:Int))))
        else
         some ([.p (.bool false)],[])
     else
      bif (((s'.data.getD t7'.toNat 0).toNat:Int)==(45:Int)) then
       L tab C 37 [] [.lp [1,0,1,0]] (S37_1010 s' t6' (IntKind.i64.wrap (t7'+(1:Int))))
      else
       bif (((s'.data.getD t7'.toNat 0).toNat:Int)==(95:Int)) then
        L tab C 37 [] [.lp [1,0,1,0]] (S37_1010 s' t6' (IntKind.i64.wrap (t7'+(1:Int))))
       else
        some ([.p (.bool false)],[])
    else
     some ([.p (.bool false)],[]) else none
 else
  bif (geI ((s'.size:Nat):Int) (1:Int)) then
   some ([.p (.bool (leI ((s'.size:Nat):Int) (32:Int)))],[])
  else
   some ([.p (.bool false)],[]):=by kernel_rfl
theorem e38 (C:CallF) (p_0 p_1 p_2:List PV)(act_ at_:Int):acallI tab C 38 [.p (.agg [.list false [.str] p_0,.list true kV3 p_1,.list true kAc p_2]),.p (.int .i64 act_),.p (.int .i64 at_)] [] =
 some ([.p (.fn 59 [.ref [.list false [.str] p_0,.list true kV3 p_1,.list true kAc p_2],.ref [.int .i64 act_],.ref [.int .i64 at_]])],[]):=by kernel_rfl
def S39_111010 (l_o l_l:Nat)(t19':List PV)(t20' t21':Int)(l_b:List PV):St:=⟨.undef::.undef::.undef::.undef::.undef::(.slice 5 3 l_o l_l)::.undef::.undef::.undef::.undef::.undef::.undef::.undef::.undef::.undef::.undef::.undef::.undef::.undef::(.p (.list true kMv t19'))::(.p (.int .i64 t20'))::(.p (.int .i64 t21'))::List.replicate 10 .undef,[(5,.arr true kV3 l_b)]⟩
theorem e39 (C:CallF) (p_0 p_1 p_2:List PV)(acts:Int):acallI tab C 39 [.p (.agg [.list false [.str] p_0,.list true kV3 p_1,.list true kAc p_2]),.p (.int .i64 acts)] [] =
 bif (acts==(0:Int)) then
  (C 55 [.p (.list true kV3 p_1)] []).bind fun r1 =>
  some ([.p (.list true kV3 ((r1.1.headD .undef).pv.toList))],[])
 else
  bif ((leI (0:Int) (IntKind.i64.wrap (acts-(1:Int))))&&(ltI (IntKind.i64.wrap (acts-(1:Int))) ((p_2.length:Nat):Int))) then L tab C 39 [] [.lp [1,1,1,0,1,0]] (S39_111010 0 0 (((p_2.getD ((IntKind.i64.wrap (acts-(1:Int))).toNat) .nil).cell 2).toList) (((((p_2.getD ((IntKind.i64.wrap (acts-(1:Int))).toNat) .nil).cell 2).toList).length:Nat):Int) 0 []) else none:=by kernel_rfl
theorem e39_111010 (C:CallF) (l_o l_l:Nat)(t19':List PV)(t20' t21':Int)(l_b:List PV):R tab C 39 [] [.lp [1,1,1,0,1,0]] (S39_111010 l_o l_l t19' t20' t21' l_b) =
 bif (ltI t21' t20') then
  bif ((leI (0:Int) t21')&&(ltI t21' ((t19'.length:Nat):Int))) then bif (leN (l_l+1) 2147483648) then L tab C 39 [] [.lp [1,1,1,0,1,0]] (S39_111010 0 (l_l+1) t19' t20' (IntKind.i64.wrap (t21'+(1:Int))) (((l_b.drop l_o).take l_l)++([.agg [.int .i64 (((t19'.getD t21'.toNat .nil).cell 0).toInt),.int .i64 (((t19'.getD t21'.toNat .nil).cell 1).toInt),.int .i64 (((t19'.getD t21'.toNat .nil).cell 2).toInt)]]:List PV))) else none else none
 else
  some ([.p (.list true kV3 ((l_b.drop l_o).take l_l))],[]):=by kernel_rfl
def S40_1010 (s':List PV)(v':ByteArray)(t7' t8':Int):St:=⟨(.p (.list false [.str] s'))::(.p (.str v'))::.undef::.undef::.undef::.undef::.undef::(.p (.int .i64 t7'))::(.p (.int .i64 t8'))::List.replicate 10 .undef,[]⟩
theorem e40 (C:CallF) (s:List PV)(v:ByteArray):acallI tab C 40 [.p (.list false [.str] s),.p (.str v)] [] =
 L tab C 40 [] [.lp [1,0,1,0]] (S40_1010 s v ((s.length:Nat):Int) 0):=by kernel_rfl
theorem e40_1010 (C:CallF) (s':List PV)(v':ByteArray)(t7' t8':Int):R tab C 40 [] [.lp [1,0,1,0]] (S40_1010 s' v' t7' t8') =
 bif (ltI t8' t7') then
  bif ((leI (0:Int) t8')&&(ltI t8' ((s'.length:Nat):Int))) then bif (v'.toList==(((s'.getD t8'.toNat .nil).cell 0).toStr).toList) then
   some ([.p (.int .i64 t8')],[])
  else
   L tab C 40 [] [.lp [1,0,1,0]] (S40_1010 s' v' t7' (IntKind.i64.wrap (t8'+(1:Int)))) else none
 else
  some ([.p (.int .i64 (-1))],[]):=by kernel_rfl
def S41_1010 (s':ByteArray)(i':Int):St:=⟨(.p (.str s'))::.undef::.undef::(.p (.int .i64 i'))::List.replicate 56 .undef,[]⟩
theorem e41 (C:CallF) (s:ByteArray):acallI tab C 41 [.p (.str s)] [] =
 L tab C 41 [] [.lp [1,0,1,0]] (S41_1010 s 0):=by kernel_rfl
theorem e41_1010 (C:CallF) (s':ByteArray)(i':Int):R tab C 41 [] [.lp [1,0,1,0]] (S41_1010 s' i') =
 bif (ltI i' ((s'.size:Nat):Int)) then
  bif ((leI (0:Int) i')&&(ltI i' (s'.size:Int))) then bif (geI ((s'.data.getD i'.toNat 0).toNat:Int) (65:Int)) then
   bif (leI ((s'.data.getD i'.toNat 0).toNat:Int) (90:Int)) then
    L tab C 41 [] [.lp [1,0,1,0]] (S41_1010 s' (IntKind.i64.wrap (i'+(1:Int))))
   else
    bif (geI ((s'.data.getD i'.toNat 0).toNat:Int) (97:Int)) then
     bif (!(leI ((s'.data.getD i'.toNat 0).toNat:Int) (122:Int))) then
      bif (i'==(0:Int)) then
       some ([.p (.bool false)],[])
      else
       bif (geI ((s'.data.getD i'.toNat 0).toNat:Int) (48:Int)) then
        bif (!(leI ((s'.data.getD i'.toNat 0).toNat:Int) (57:Int))) then
         bif (((s'.data.getD i'.toNat 0).toNat:Int) != (45:Int)) then
          bif (((s'.data.getD i'.toNat 0).toNat:Int) != (95:Int)) then
           some ([.p (.bool false)],[])
          else
           L tab C 41 [] [.lp [1,0,1,0]] (S41_1010 s' (IntKind.i64.wrap (i'+(1:Int))))
         else
          L tab C 41 [] [.lp [1,0,1,0]] (S41_1010 s' (IntKind.i64.wrap (i'+(1:Int))))
        else
         L tab C 41 [] [.lp [1,0,1,0]] (S41_1010 s' (IntKind.i64.wrap (i'+(1:Int))))
       else
        bif (((s'.data.getD i'.toNat 0).toNat:Int) != (45:Int)) then
         bif (((s'.data.getD i'.toNat 0).toNat:Int) != (95:Int)) then
          some ([.p (.bool false)],[])
         else
          L tab C 41 [] [.lp [1,0,1,0]] (S41_1010 s' (IntKind.i64.wrap (i'+(1:Int))))
        else
         L tab C 41 [] [.lp [1,0,1,0]] (S41_1010 s' (IntKind.i64.wrap (i'+(1:Int))))
     else
      L tab C 41 [] [.lp [1,0,1,0]] (S41_1010 s' (IntKind.i64.wrap (i'+(1:Int))))
    else
     bif (i'==(0:Int)) then
      some ([.p (.bool false)],[])
     else
      bif (geI ((s'.data.getD i'.toNat 0).toNat:Int) (48:Int)) then
       bif (!(leI ((s'.data.getD i'.toNat 0).toNat:Int) (57:Int))) then
        bif (((s'.data.getD i'.toNat 0).toNat:Int) != (45:Int)) then
         bif (((s'.data.getD i'.toNat 0).toNat:Int) != (95:Int)) then
          some ([.p (.bool false)],[])
         else
          L tab C 41 [] [.lp [1,0,1,0]] (S41_1010 s' (IntKind.i64.wrap (i'+(1:Int))))
        else
         L tab C 41 [] [.lp [1,0,1,0]] (S41_1010 s' (IntKind.i64.wrap (i'+(1:Int))))
       else
        L tab C 41 [] [.lp [1,0,1,0]] (S41_1010 s' (IntKind.i64.wrap (i'+(1:Int))))
      else
       bif (((s'.data.getD i'.toNat 0).toNat:Int) != (45:Int)) then
        bif (((s'.data.getD i'.toNat 0).toNat:Int) != (95:Int)) then
         some ([.p (.bool false)],[])
        else
         L tab C 41 [] [.lp [1,0,1,0]] (S41_1010 s' (IntKind.i64.wrap (i'+(1:Int))))
       else
        L tab C 41 [] [.lp [1,0,1,0]] (S41_1010 s' (IntKind.i64.wrap (i'+(1:Int))))
  else
   bif (geI ((s'.data.getD i'.toNat 0).toNat:Int) (97:Int)) then
    bif (!(leI ((s'.data.getD i'.toNat 0).toNat:Int) (122:Int))) then
     bif (i'==(0:Int)) then
      some ([.p (.bool false)],[])
     else
      bif (geI ((s'.data.getD i'.toNat 0).toNat:Int) (48:Int)) then
       bif (!(leI ((s'.data.getD i'.toNat 0).toNat:Int) (57:Int))) then
        bif (((s'.data.getD i'.toNat 0).toNat:Int) != (45:Int)) then
         bif (((s'.data.getD i'.toNat 0).toNat:Int) != (95:Int)) then
          some ([.p (.bool false)],[])
         else
          L tab C 41 [] [.lp [1,0,1,0]] (S41_1010 s' (IntKind.i64.wrap (i'+(1:Int))))
        else
         L tab C 41 [] [.lp [1,0,1,0]] (S41_1010 s' (IntKind.i64.wrap (i'+(1:Int))))
       else
        L tab C 41 [] [.lp [1,0,1,0]] (S41_1010 s' (IntKind.i64.wrap (i'+(1:Int))))
      else
       bif (((s'.data.getD i'.toNat 0).toNat:Int) != (45:Int)) then
        bif (((s'.data.getD i'.toNat 0).toNat:Int) != (95:Int)) then
         some ([.p (.bool false)],[])
        else
         L tab C 41 [] [.lp [1,0,1,0]] (S41_1010 s' (IntKind.i64.wrap (i'+(1:Int))))
       else
        L tab C 41 [] [.lp [1,0,1,0]] (S41_1010 s' (IntKind.i64.wrap (i'+(1:Int))))
    else
     L tab C 41 [] [.lp [1,0,1,0]] (S41_1010 s' (IntKind.i64.wrap (i'+(1:Int))))
   else
    bif (i'==(0:Int)) then
     some ([.p (.bool false)],[])
    else
     bif (geI ((s'.data.getD i'.toNat 0).toNat:Int) (48:Int)) then
      bif (!(leI ((s'.data.getD i'.toNat 0).toNat:Int) (57:Int))) then
       bif (((s'.data.getD i'.toNat 0).toNat:Int) != (45:Int)) then
        bif (((s'.data.getD i'.toNat 0).toNat:Int) != (95:Int)) then
         some ([.p (.bool false)],[])
        else
         L tab C 41 [] [.lp [1,0,1,0]] (S41_1010 s' (IntKind.i64.wrap (i'+(1:Int))))
       else
        L tab C 41 [] [.lp [1,0,1,0]] (S41_1010 s' (IntKind.i64.wrap (i'+(1:Int))))
      else
       L tab C 41 [] [.lp [1,0,1,0]] (S41_1010 s' (IntKind.i64.wrap (i'+(1:Int))))
     else
      bif (((s'.data.getD i'.toNat 0).toNat:Int) != (45:Int)) then
       bif (((s'.data.getD i'.toNat 0).toNat:Int) != (95:Int)) then
        some ([.p (.bool false)],[])
       else
        L tab C 41 [] [.lp [1,0,1,0]] (S41_1010 s' (IntKind.i64.wrap (i'+(1:Int))))
      else
       L tab C 41 [] [.lp [1,0,1,0]] (S41_1010 s' (IntKind.i64.wrap (i'+(1:Int)))) else none
 else
  bif (geI ((s'.size:Nat):Int) (1:Int)) then
   some ([.p (.bool (leI ((s'.size:Nat):Int) (32:Int)))],[])
  else
   some ([.p (.bool false)],[]):=by kernel_rfl
theorem e42 (C:CallF) (v_0 v_1 v_2:Int):acallI tab C 42 [.p (.agg [.int .i64 v_0,.int .i64 v_1,.int .i64 v_2])] [] =
 (C 61 [.p (.int .i64 v_0)] []).bind fun r1 =>
 bif (r1.1.headD .undef).pv.toBool then
  (C 61 [.p (.int .i64 v_1)] []).bind fun r2 =>
  bif (r2.1.headD .undef).pv.toBool then
   (C 61 [.p (.int .i64 v_2)] []).bind fun r3 =>
   some ([.p (.bool ((r3.1.headD .undef).pv.toBool))],[])
  else
   some ([.p (.bool false)],[])
 else
  some ([.p (.bool false)],[]):=by kernel_rfl
theorem e43 (C:CallF) (from__0 from__1 from__2 m_0 m_1 m_2 m_3 m_4 m_5 length:Int):acallI tab C 43 [.p (.agg [.int .i64 from__0,.int .i64 from__1,.int .i64 from__2]),.p (.agg [.int .i64 m_0,.int .i64 m_1,.int .i64 m_2,.int .i64 m_3,.int .i64 m_4,.int .i64 m_5]),.p (.int .i64 length)] [] =
 (C 42 [.p (.agg [.int .i64 m_0,.int .i64 m_1,.int .i64 m_2])] []).bind fun r1 =>
 bif (!(r1.1.headD .undef).pv.toBool) then
  some ([.p (.bool false)],[])
 else
  (C 62 [.p (.int .i64 m_3)] []).bind fun r2 =>
  bif (!(r2.1.headD .undef).pv.toBool) then
   some ([.p (.bool false)],[])
  else
   (C 62 [.p (.int .i64 m_4)] []).bind fun r3 =>
   bif (!(r3.1.headD .undef).pv.toBool) then
    some ([.p (.bool false)],[])
   else
    (C 62 [.p (.int .i64 m_5)] []).bind fun r4 =>
    bif (!(r4.1.headD .undef).pv.toBool) then
     some ([.p (.bool false)],[])
    else
     bif (gtI (IntKind.i64.wrap (m_3+m_4)) length) then
      some ([.p (.bool false)],[])
     else
      bif (m_4==(0:Int)) then
       bif ((m_0==from__0)&&((m_1==from__1)&&((m_2==from__2)&&true))) then
        some ([.p (.bool (m_5==(0:Int)))],[])
       else
        some ([.p (.bool false)],[])
      else
       (C 63 [.p (.agg [.int .i64 from__0,.int .i64 from__1,.int .i64 from__2]),.p (.int .i64 m_5)] []).bind fun r5 =>
       (C 63 [.p (.agg [.int .i64 m_0,.int .i64 m_1,.int .i64 m_2]),.p (.int .i64 m_5)] []).bind fun r6 =>
       bif (m_5==(0:Int)) then
        some ([.p (.bool true)],[])
       else
        bif ((m_4.tmod (4:Int))==(0:Int)) then
         bif (r5.1.tail.headD .undef).pv.toBool then
          some ([.p (.bool ((r6.1.tail.headD .undef).pv.toBool))],[])
         else
          some ([.p (.bool false)],[])
        else
         some ([.p (.bool false)],[]):=by kernel_rfl
theorem e44 (C:CallF) (from__0 from__1 from__2 m_0 m_1 m_2 m_3 m_4 m_5 at_ length:Int):acallI tab C 44 [.p (.agg [.int .i64 from__0,.int .i64 from__1,.int .i64 from__2]),.p (.agg [.int .i64 m_0,.int .i64 m_1,.int .i64 m_2,.int .i64 m_3,.int .i64 m_4,.int .i64 m_5]),.p (.int .i64 at_),.p (.int .i64 length)] [] =
 bif (m_4==(0:Int)) then
  (C 64 [.p (.agg [.int .i64 from__0,.int .i64 from__1,.int .i64 from__2]),.p (.int .i64 at_),.p (.int .i64 (IntKind.i64.wrap (at_+length)))] []).bind fun r1 =>
  some ([.fresh true kSg ((((r1.1.headD .undef).freshList).drop 0).take ((r1.1.headD .undef).freshList.length))],[])
 else
  (C 64 [.p (.agg [.int .i64 from__0,.int .i64 from__1,.int .i64 from__2]),.p (.int .i64 at_),.p (.int .i64 (IntKind.i64.wrap (at_+m_3)))] []).bind fun r2 =>
  bif (m_5==(0:Int)) then
   (C 65 [.p (.agg [.int .i64 from__0,.int .i64 from__1,.int .i64 from__2]),.p (.agg [.int .i64 m_0,.int .i64 m_1,.int .i64 m_2]),.p (.int .i64 (IntKind.i64.wrap (at_+m_3))),.p (.int .i64 (IntKind.i64.wrap ((IntKind.i64.wrap (at_+m_3))+m_4))),.p (.int .i64 0)] []).bind fun r3 =>
   bif (leN ((r2.1.headD .undef).freshList.length+1) 2147483648) then(C 64 [.p (.agg [.int .i64 m_0,.int .i64 m_1,.int .i64 m_2]),.p (.int .i64 (IntKind.i64.wrap ((IntKind.i64.wrap (at_+m_3))+m_4))),.p (.int .i64 (IntKind.i64.wrap (at_+length)))] []).bind fun r4 =>
   bif (leN (((r2.1.headD .undef).freshList.length+1)+(r4.1.headD .undef).freshList.length) 2147483648) then some ([.fresh true kSg ((((((((((r2.1.headD .undef).freshList).drop 0).take ((r2.1.headD .undef).freshList.length))++([.agg [.int .i64 (((r3.1.headD .undef).pv.cell 0).toInt),.int .i64 (((r3.1.headD .undef).pv.cell 1).toInt),.int .i64 (((r3.1.headD .undef).pv.cell 2).toInt),.list false [.int .i64] (((r3.1.headD .undef).pv.cell 3).toList),.list false [.int .i64] (((r3.1.headD .undef).pv.cell 4).toList),.list false [.int .i64] (((r3.1.headD .undef).pv.cell 5).toList)]]:List PV)).drop 0).take ((r2.1.headD .undef).freshList.length+1))++((((r4.1.headD .undef).freshList).drop 0).take ((r4.1.headD .undef).freshList.length))).drop 0).take (((r2.1.headD .undef).freshList.length+1)+(r4.1.headD .undef).freshList.length))],[]) else none else none
  else
   (C 66 [.p (.agg [.int .i64 from__0,.int .i64 from__1,.int .i64 from__2]),.p (.agg [.int .i64 m_0,.int .i64 m_1,.int .i64 m_2]),.p (.int .i64 m_5),.p (.int .i64 (IntKind.i64.wrap (at_+m_3))),.p (.int .i64 (IntKind.i64.wrap ((IntKind.i64.wrap (at_+m_3))+m_4)))] []).bind fun r5 =>
   bif (leN ((r2.1.headD .undef).freshList.length+(r5.1.headD .undef).freshList.length) 2147483648) then(C 64 [.p (.agg [.int .i64 m_0,.int .i64 m_1,.int .i64 m_2]),.p (.int .i64 (IntKind.i64.wrap ((IntKind.i64.wrap (at_+m_3))+m_4))),.p (.int .i64 (IntKind.i64.wrap (at_+length)))] []).bind fun r6 =>
   bif (leN (((r2.1.headD .undef).freshList.length+(r5.1.headD .undef).freshList.length)+(r6.1.headD .undef).freshList.length) 2147483648) then some ([.fresh true kSg ((((((((((r2.1.headD .undef).freshList).drop 0).take ((r2.1.headD .undef).freshList.length))++((((r5.1.headD .undef).freshList).drop 0).take ((r5.1.headD .undef).freshList.length))).drop 0).take ((r2.1.headD .undef).freshList.length+(r5.1.headD .undef).freshList.length))++((((r6.1.headD .undef).freshList).drop 0).take ((r6.1.headD .undef).freshList.length))).drop 0).take (((r2.1.headD .undef).freshList.length+(r5.1.headD .undef).freshList.length)+(r6.1.headD .undef).freshList.length))],[]) else none else none:=by kernel_rfl
def S57_11010 (t11':List PV)(t12' t13':Int)(p_b0 p_b1 p_b2:List PV):St:=⟨.undef::(.ptr 1 0 0)::.undef::(.ptr 3 0 0)::.undef::.undef::.undef::.undef::.undef::.undef::.undef::(.p (.list false [.str] t11'))::(.p (.int .i64 t12'))::(.p (.int .i64 t13'))::List.replicate 70 .undef,[(1,.box [.p (.list false [.str] p_b0),.p (.list true kV3 p_b1),.p (.list true kAc p_b2)]),(3,.tb 114 (.p (.nilp)) (.p (.nil)))]⟩
def S57_11010_s1 (t11':List PV)(t12' t13':Int)(p_b0 p_b1 p_b2 b7990_b:List PV):St:=⟨.undef::(.ptr 1 0 0)::.undef::(.ptr 3 0 0)::.undef::.undef::.undef::.undef::.undef::.undef::.undef::(.p (.list false [.str] t11'))::(.p (.int .i64 t12'))::(.p (.int .i64 t13'))::List.replicate 70 .undef,[(1,.box [.p (.list false [.str] p_b0),.p (.list true kV3 p_b1),.p (.list true kAc p_b2)]),(3,.tb 114 (.ptr 3 0 0) (.mref 7990)),(7990,.br 5 b7990_b)]⟩
def S57_111010 (t42':List PV)(t43' t44':Int):St:=⟨.undef::.undef::.undef::(.ptr 3 0 0)::.undef::.undef::.undef::.undef::.undef::.undef::.undef::.undef::.undef::.undef::.undef::.undef::.undef::.undef::.undef::.undef::.undef::.undef::.undef::.undef::.undef::.undef::.undef::.undef::.undef::.undef::.undef::.undef::.undef::.undef::.undef::.undef::.undef::.undef::.undef::.undef::.undef::.undef::(.p (.list true kAc t42'))::(.p (.int .i64 t43'))::(.p (.int .i64 t44'))::List.replicate 39 .undef,[(3,.tb 114 (.p (.nilp)) (.p (.nil)))]⟩
def S57_111010_s1 (t42':List PV)(t43' t44':Int)(b7990_b:List PV):St:=⟨.undef::.undef::.undef::(.ptr 3 0 0)::.undef::.undef::.undef::.undef::.undef::.undef::.undef::.undef::.undef::.undef::.undef::.undef::.undef::.undef::.undef::.undef::.undef::.undef::.undef::.undef::.undef::.undef::.undef::.undef::.undef::.undef::.undef::.undef::.undef::.undef::.undef::.undef::.undef::.undef::.undef::.undef::.undef::.undef::(.p (.list true kAc t42'))::(.p (.int .i64 t43'))::(.p (.int .i64 t44'))::List.replicate 39 .undef,[(3,.tb 114 (.ptr 3 0 0) (.mref 7990)),(7990,.br 5 b7990_b)]⟩
def S57_111010_11001110 (t42':List PV)(t43' t44':Int)(t56':List PV)(t57' t58':Int)(b7990_b:List PV):St:=⟨.undef::.undef::.undef::(.ptr 3 0 0)::.undef::.undef::.undef::.undef::.undef::.undef::.undef::.undef::.undef::.undef::.undef::.undef::.undef::.undef::.undef::.undef::.undef::.undef::.undef::.undef::.undef::.undef::.undef::.undef::.undef::.undef::.undef::.undef::.undef::.undef::.undef::.undef::.undef::.undef::.undef::.undef::.undef::.undef::(.p (.list true kAc t42'))::(.p (.int .i64 t43'))::(.p (.int .i64 t44'))::.undef::.undef::.undef::.undef::.undef::.undef::.undef::.undef::.undef::.undef::.undef::(.p (.list true kMv t56'))::(.p (.int .i64 t57'))::(.p (.int .i64 t58'))::List.replicate 25 .undef,[(3,.tb 114 (.ptr 3 0 0) (.mref 7990)),(7990,.br 5 b7990_b)]⟩
theorem e57 (C:CallF) (p_0 p_1 p_2:List PV):acallI tab C 57 [.p (.agg [.list false [.str] p_0,.list true kV3 p_1,.list true kAc p_2])] [] =
 L tab C 57 [] [.lp [1,1,0,1,0]] (S57_11010 p_0 ((p_0.length:Nat):Int) 0 p_0 p_1 p_2):=by kernel_rfl
theorem e57_11010 (C:CallF) (t11':List PV)(t12' t13':Int)(p_b0 p_b1 p_b2:List PV):R tab C 57 [] [.lp [1,1,0,1,0]] (S57_11010 t11' t12' t13' p_b0 p_b1 p_b2) =
 bif (ltI t13' t12') then
  bif ((leI (0:Int) t13')&&(ltI t13' ((t11'.length:Nat):Int))) then bif ((leI (0:Int) t13')&&(ltI t13' ((p_b1.length:Nat):Int))) then bif ((leI (0:Int) t13')&&(ltI t13' ((p_b1.length:Nat):Int))) then bif ((leI (0:Int) t13')&&(ltI t13' ((p_b1.length:Nat):Int))) then bif ((([.int .i64 (((p_b1.getD t13'.toNat .nil).cell 0).toInt),.int .i64 (((p_b1.getD t13'.toNat .nil).cell 1).toInt),.int .i64 (((p_b1.getD t13'.toNat .nil).cell 2).toInt)]:List PV)).all PV.isI64) then bif (leN ((lineB ([.str ⟨#[97,105,114,99,114,97,102,116]⟩,.str (((t11'.getD t13'.toNat .nil).cell 0).toStr)]:List PV) ([.int .i64 (((p_b1.getD t13'.toNat .nil).cell 0).toInt),.int .i64 (((p_b1.getD t13'.toNat .nil).cell 1).toInt),.int .i64 (((p_b1.getD t13'.toNat .nil).cell 2).toInt)]:List PV)).size) 2147483648) then L tab C 57 [] [.lp [1,1,0,1,0]] (S57_11010_s1 t11' t12' (IntKind.i64.wrap (t13'+(1:Int))) p_b0 p_b1 p_b2 (strPVs (lineB ([.str ⟨#[97,105,114,99,114,97,102,116]⟩,.str (((t11'.getD t13'.toNat .nil).cell 0).toStr)]:List PV) ([.int .i64 (((p_b1.getD t13'.toNat .nil).cell 0).toInt),.int .i64 (((p_b1.getD t13'.toNat .nil).cell 1).toInt),.int .i64 (((p_b1.getD t13'.toNat .nil).cell 2).toInt)]:List PV)))) else none else none else none else none else none else none
 else
  L tab C 57 [] [.lp [1,1,1,0,1,0]] (S57_111010 p_b2 ((p_b2.length:Nat):Int) 0):=by kernel_rfl
theorem e57_11010_s1 (C:CallF) (t11':List PV)(t12' t13':Int)(p_b0 p_b1 p_b2 b7990_b:List PV):R tab C 57 [] [.lp [1,1,0,1,0]] (S57_11010_s1 t11' t12' t13' p_b0 p_b1 p_b2 b7990_b) =
 bif (ltI t13' t12') then
  bif ((leI (0:Int) t13')&&(ltI t13' ((t11'.length:Nat):Int))) then bif ((leI (0:Int) t13')&&(ltI t13' ((p_b1.length:Nat):Int))) then bif ((leI (0:Int) t13')&&(ltI t13' ((p_b1.length:Nat):Int))) then bif ((leI (0:Int) t13')&&(ltI t13' ((p_b1.length:Nat):Int))) then bif ((([.int .i64 (((p_b1.getD t13'.toNat .nil).cell 0).toInt),.int .i64 (((p_b1.getD t13'.toNat .nil).cell 1).toInt),.int .i64 (((p_b1.getD t13'.toNat .nil).cell 2).toInt)]:List PV)).all PV.isI64) then bif (leN (b7990_b.length+(lineB ([.str ⟨#[97,105,114,99,114,97,102,116]⟩,.str (((t11'.getD t13'.toNat .nil).cell 0).toStr)]:List PV) ([.int .i64 (((p_b1.getD t13'.toNat .nil).cell 0).toInt),.int .i64 (((p_b1.getD t13'.toNat .nil).cell 1).toInt),.int .i64 (((p_b1.getD t13'.toNat .nil).cell 2).toInt)]:List PV)).size) 2147483648) then L tab C 57 [] [.lp [1,1,0,1,0]] (S57_11010_s1 t11' t12' (IntKind.i64.wrap (t13'+(1:Int))) p_b0 p_b1 p_b2 (b7990_b++(strPVs (lineB ([.str ⟨#[97,105,114,99,114,97,102,116]⟩,.str (((t11'.getD t13'.toNat .nil).cell 0).toStr)]:List PV) ([.int .i64 (((p_b1.getD t13'.toNat .nil).cell 0).toInt),.int .i64 (((p_b1.getD t13'.toNat .nil).cell 1).toInt),.int .i64 (((p_b1.getD t13'.toNat .nil).cell 2).toInt)]:List PV))))) else none else none else none else none else none else none
 else
  L tab C 57 [] [.lp [1,1,1,0,1,0]] (S57_111010_s1 p_b2 ((p_b2.length:Nat):Int) 0 b7990_b):=by kernel_rfl
theorem e57_111010_s1 (C:CallF) (t42':List PV)(t43' t44':Int)(b7990_b:List PV):R tab C 57 [] [.lp [1,1,1,0,1,0]] (S57_111010_s1 t42' t43' t44' b7990_b) =
 bif (ltI t44' t43') then
  bif ((leI (0:Int) t44')&&(ltI t44' ((t42'.length:Nat):Int))) then bif ((([.int .i64 (((t42'.getD t44'.toNat .nil).cell 1).toInt)]:List PV)).all PV.isI64) then bif (leN (b7990_b.length+(lineB ([.str ⟨#[97,99,116]⟩,.str (((t42'.getD t44'.toNat .nil).cell 0).toStr)]:List PV) ([.int .i64 (((t42'.getD t44'.toNat .nil).cell 1).toInt)]:List PV)).size) 2147483648) then L tab C 57 [] [.lp [1,1,1,0,1,0],.lp [1,1,0,0,1,1,1,0]] (S57_111010_11001110 t42' t43' t44' (((t42'.getD t44'.toNat .nil).cell 2).toList) (((((t42'.getD t44'.toNat .nil).cell 2).toList).length:Nat):Int) 0 (b7990_b++(strPVs (lineB ([.str ⟨#[97,99,116]⟩,.str (((t42'.getD t44'.toNat .nil).cell 0).toStr)]:List PV) ([.int .i64 (((t42'.getD t44'.toNat .nil).cell 1).toInt)]:List PV))))) else none else none else none
 else
  bif (leN b7990_b.length 2147483648) then bif (b7990_b.all PV.isByte) then some ([.p (.str (bytesOf b7990_b))],[]) else none else none:=by kernel_rfl
theorem e57_111010_11001110 (C:CallF) (t42':List PV)(t43' t44':Int)(t56':List PV)(t57' t58':Int)(b7990_b:List PV):R tab C 57 [] [.lp [1,1,1,0,1,0],.lp [1,1,0,0,1,1,1,0]] (S57_111010_11001110 t42' t43' t44' t56' t57' t58' b7990_b) =
 bif (ltI t58' t57') then
  bif ((leI (0:Int) t58')&&(ltI t58' ((t56'.length:Nat):Int))) then bif ((([.int .i64 (((t56'.getD t58'.toNat .nil).cell 0).toInt),.int .i64 (((t56'.getD t58'.toNat .nil).cell 1).toInt),.int .i64 (((t56'.getD t58'.toNat .nil).cell 2).toInt),.int .i64 (((t56'.getD t58'.toNat .nil).cell 3).toInt),.int .i64 (((t56'.getD t58'.toNat .nil).cell 4).toInt),.int .i64 (((t56'.getD t58'.toNat .nil).cell 5).toInt)]:List PV)).all PV.isI64) then bif (leN (b7990_b.length+(lineB ([.str ⟨#[109,111,118,101]⟩]:List PV) ([.int .i64 (((t56'.getD t58'.toNat .nil).cell 0).toInt),.int .i64 (((t56'.getD t58'.toNat .nil).cell 1).toInt),.int .i64 (((t56'.getD t58'.toNat .nil).cell 2).toInt),.int .i64 (((t56'.getD t58'.toNat .nil).cell 3).toInt),.int .i64 (((t56'.getD t58'.toNat .nil).cell 4).toInt),.int .i64 (((t56'.getD t58'.toNat .nil).cell 5).toInt)]:List PV)).size) 2147483648) then L tab C 57 [] [.lp [1,1,1,0,1,0],.lp [1,1,0,0,1,1,1,0]] (S57_111010_11001110 t42' t43' t44' t56' t57' (IntKind.i64.wrap (t58'+(1:Int))) (b7990_b++(strPVs (lineB ([.str ⟨#[109,111,118,101]⟩]:List PV) ([.int .i64 (((t56'.getD t58'.toNat .nil).cell 0).toInt),.int .i64 (((t56'.getD t58'.toNat .nil).cell 1).toInt),.int .i64 (((t56'.getD t58'.toNat .nil).cell 2).toInt),.int .i64 (((t56'.getD t58'.toNat .nil).cell 3).toInt),.int .i64 (((t56'.getD t58'.toNat .nil).cell 4).toInt),.int .i64 (((t56'.getD t58'.toNat .nil).cell 5).toInt)]:List PV))))) else none else none else none
 else
  L tab C 57 [] [.lp [1,1,1,0,1,0]] (S57_111010_s1 t42' t43' (IntKind.i64.wrap (t44'+(1:Int))) b7990_b):=by kernel_rfl
theorem e58 (C:CallF) (v_0 v_1 v_2:Int):acallI tab C 58 [.p (.agg [.int .i64 v_0,.int .i64 v_1,.int .i64 v_2])] [] =
 (C 70 [.p (.int .i64 1048576),.p (.list false [.int .i64] [.int .i64 v_0,.int .i64 v_1,.int .i64 v_2])] []).bind fun r1 =>
 some ([.p (.bool ((r1.1.headD .undef).pv.toBool))],[]):=by kernel_rfl
def S59_110 (t3_r0:Int)(t15':List PV)(t16' t17':Int)(b100000_b:List PV)(a_b0:ByteArray)(a_b1:Int)(a_b2:List PV):St:=⟨(.yld)::.undef::.undef::(.p (.ref [.int .i64 t3_r0]))::.undef::(.ptr 5 0 0)::.undef::.undef::.undef::.undef::.undef::.undef::.undef::.undef::.undef::(.p (.list true kV3 t15'))::(.p (.int .i64 t16'))::(.p (.int .i64 t17'))::List.replicate 20 .undef,[(100000,.log true b100000_b),(5,.box [.p (.str a_b0),.p (.int .i64 a_b1),.p (.list true kMv a_b2)])]⟩
def S59_110_s1 (t3_r0:Int)(a_r0:ByteArray)(a_r1:Int)(a_r2 t15':List PV)(t16' t17':Int)(b100000_b:List PV):St:=⟨(.yld)::.undef::.undef::(.p (.ref [.int .i64 t3_r0]))::.undef::(.p (.ref [.str a_r0,.int .i64 a_r1,.list true kMv a_r2]))::.undef::.undef::.undef::.undef::.undef::.undef::.undef::.undef::.undef::(.p (.list true kV3 t15'))::(.p (.int .i64 t16'))::(.p (.int .i64 t17'))::List.replicate 20 .undef,[(100000,.log true b100000_b)]⟩
theorem e59 (C:CallF) (c0_0 c0_1 c0_2:List PV)(c1 c2:Int):acallI tab C 59 [.yld,.p (.ref [.list false [.str] c0_0,.list true kV3 c0_1,.list true kAc c0_2]),.p (.ref [.int .i64 c1]),.p (.ref [.int .i64 c2])] [.log true []] =
 bif ((leI (0:Int) c1)&&(ltI c1 ((c0_2.length:Nat):Int))) then(C 39 [.p (.agg [.list false [.str] c0_0,.list true kV3 c0_1,.list true kAc c0_2]),.p (.int .i64 c1)] []).bind fun r1 =>
 L tab C 59 [.log true []] [.lp [1,1,0]] (S59_110 c2 ((r1.1.headD .undef).pv.toList) ((((r1.1.headD .undef).pv.toList).length:Nat):Int) 0 [] (((c0_2.getD c1.toNat .nil).cell 0).toStr) (((c0_2.getD c1.toNat .nil).cell 1).toInt) (((c0_2.getD c1.toNat .nil).cell 2).toList)) else none:=by kernel_rfl
theorem e59_110 (C:CallF) (t3_r0:Int)(t15':List PV)(t16' t17':Int)(b100000_b:List PV)(a_b0:ByteArray)(a_b1:Int)(a_b2:List PV):R tab C 59 [.log true []] [.lp [1,1,0]] (S59_110 t3_r0 t15' t16' t17' b100000_b a_b0 a_b1 a_b2) =
 bif (ltI t17' t16') then
  bif ((leI (0:Int) t17')&&(ltI t17' ((t15'.length:Nat):Int))) then bif ((leI (0:Int) t17')&&(ltI t17' ((a_b2.length:Nat):Int))) then(C 60 [.p (.agg [.int .i64 (((t15'.getD t17'.toNat .nil).cell 0).toInt),.int .i64 (((t15'.getD t17'.toNat .nil).cell 1).toInt),.int .i64 (((t15'.getD t17'.toNat .nil).cell 2).toInt)]),.p (.agg [.int .i64 (((a_b2.getD t17'.toNat .nil).cell 0).toInt),.int .i64 (((a_b2.getD t17'.toNat .nil).cell 1).toInt),.int .i64 (((a_b2.getD t17'.toNat .nil).cell 2).toInt),.int .i64 (((a_b2.getD t17'.toNat .nil).cell 3).toInt),.int .i64 (((a_b2.getD t17'.toNat .nil).cell 4).toInt),.int .i64 (((a_b2.getD t17'.toNat .nil).cell 5).toInt)]),.p (.int .i64 t3_r0),.p (.int .i64 a_b1)] []).bind fun r1 =>
  fork (some ([],[.log false (b100000_b++([.agg [.list true kSg ((((r1.1.headD .undef).freshList).drop 0).take ((r1.1.headD .undef).freshList.length)),.int .i64 ((r1.1.tail.headD .undef).pv.toInt)]]:List PV))])) <|
  L tab C 59 [.log true []] [.lp [1,1,0]] (S59_110_s1 t3_r0 a_b0 a_b1 a_b2 t15' t16' (IntKind.i64.wrap (t17'+(1:Int))) (b100000_b++([.agg [.list true kSg ((((r1.1.headD .undef).freshList).drop 0).take ((r1.1.headD .undef).freshList.length)),.int .i64 ((r1.1.tail.headD .undef).pv.toInt)]]:List PV))) else none else none
 else
  some ([],[.log true b100000_b]):=by kernel_rfl
theorem e59_110_s1 (C:CallF) (t3_r0:Int)(a_r0:ByteArray)(a_r1:Int)(a_r2 t15':List PV)(t16' t17':Int)(b100000_b:List PV):R tab C 59 [.log true []] [.lp [1,1,0]] (S59_110_s1 t3_r0 a_r0 a_r1 a_r2 t15' t16' t17' b100000_b) =
 bif (ltI t17' t16') then
  bif ((leI (0:Int) t17')&&(ltI t17' ((t15'.length:Nat):Int))) then bif ((leI (0:Int) t17')&&(ltI t17' ((a_r2.length:Nat):Int))) then(C 60 [.p (.agg [.int .i64 (((t15'.getD t17'.toNat .nil).cell 0).toInt),.int .i64 (((t15'.getD t17'.toNat .nil).cell 1).toInt),.int .i64 (((t15'.getD t17'.toNat .nil).cell 2).toInt)]),.p (.agg [.int .i64 (((a_r2.getD t17'.toNat .nil).cell 0).toInt),.int .i64 (((a_r2.getD t17'.toNat .nil).cell 1).toInt),.int .i64 (((a_r2.getD t17'.toNat .nil).cell 2).toInt),.int .i64 (((a_r2.getD t17'.toNat .nil).cell 3).toInt),.int .i64 (((a_r2.getD t17'.toNat .nil).cell 4).toInt),.int .i64 (((a_r2.getD t17'.toNat .nil).cell 5).toInt)]),.p (.int .i64 t3_r0),.p (.int .i64 a_r1)] []).bind fun r1 =>
  fork (some ([],[.log false (b100000_b++([.agg [.list true kSg ((((r1.1.headD .undef).freshList).drop 0).take ((r1.1.headD .undef).freshList.length)),.int .i64 ((r1.1.tail.headD .undef).pv.toInt)]]:List PV))])) <|
  L tab C 59 [.log true []] [.lp [1,1,0]] (S59_110_s1 t3_r0 a_r0 a_r1 a_r2 t15' t16' (IntKind.i64.wrap (t17'+(1:Int))) (b100000_b++([.agg [.list true kSg ((((r1.1.headD .undef).freshList).drop 0).take ((r1.1.headD .undef).freshList.length)),.int .i64 ((r1.1.tail.headD .undef).pv.toInt)]]:List PV))) else none else none
 else
  some ([],[.log true b100000_b]):=by kernel_rfl
theorem e60 (C:CallF) (from__0 from__1 from__2 m_0 m_1 m_2 m_3 m_4 m_5 at_ length:Int):acallI tab C 60 [.p (.agg [.int .i64 from__0,.int .i64 from__1,.int .i64 from__2]),.p (.agg [.int .i64 m_0,.int .i64 m_1,.int .i64 m_2,.int .i64 m_3,.int .i64 m_4,.int .i64 m_5]),.p (.int .i64 at_),.p (.int .i64 length)] [] =
 (C 58 [.p (.agg [.int .i64 from__0,.int .i64 from__1,.int .i64 from__2])] []).bind fun r1 =>
 bif (!(r1.1.headD .undef).pv.toBool) then
  some ([.fresh true kSg [],.p (.int .i64 2)],[])
 else
  bif (ltI length (1:Int)) then
   some ([.fresh true kSg [],.p (.int .i64 2)],[])
  else
   (C 71 [.p (.int .i64 length)] []).bind fun r2 =>
   bif (!(r2.1.headD .undef).pv.toBool) then
    some ([.fresh true kSg [],.p (.int .i64 2)],[])
   else
    (C 71 [.p (.int .i64 at_)] []).bind fun r3 =>
    bif (!(r3.1.headD .undef).pv.toBool) then
     some ([.fresh true kSg [],.p (.int .i64 2)],[])
    else
     (C 72 [.p (.agg [.int .i64 from__0,.int .i64 from__1,.int .i64 from__2]),.p (.agg [.int .i64 m_0,.int .i64 m_1,.int .i64 m_2,.int .i64 m_3,.int .i64 m_4,.int .i64 m_5]),.p (.int .i64 length)] []).bind fun r4 =>
     bif (!(r4.1.headD .undef).pv.toBool) then
      some ([.fresh true kSg [],.p (.int .i64 2)],[])
     else
      (C 71 [.p (.int .i64 (IntKind.i64.wrap (at_+length)))] []).bind fun r5 =>
      bif (!(r5.1.headD .undef).pv.toBool) then
       some ([.fresh true kSg [],.p (.int .i64 3)],[])
      else
       (C 73 [.p (.agg [.int .i64 from__0,.int .i64 from__1,.int .i64 from__2]),.p (.agg [.int .i64 m_0,.int .i64 m_1,.int .i64 m_2,.int .i64 m_3,.int .i64 m_4,.int .i64 m_5]),.p (.int .i64 at_),.p (.int .i64 length)] []).bind fun r6 =>
       some ([.fresh true kSg ((((r6.1.headD .undef).freshList).drop 0).take ((r6.1.headD .undef).freshList.length)),.p (.int .i64 0)],[]):=by kernel_rfl
theorem e61 (C:CallF) (n_:Int):acallI tab C 61 [.p (.int .i64 n_)] [] =
 bif (geI n_ (-1048576:Int)) then
  some ([.p (.bool (leI n_ (1048576:Int)))],[])
 else
  some ([.p (.bool false)],[]):=by kernel_rfl
theorem e62 (C:CallF) (n_:Int):acallI tab C 62 [.p (.int .i64 n_)] [] =
 bif (geI n_ (0:Int)) then
  some ([.p (.bool (leI n_ (3600000:Int)))],[])
 else
  some ([.p (.bool false)],[]):=by kernel_rfl
theorem e63 (C:CallF) (v_0 v_1 v_2 rise:Int):acallI tab C 63 [.p (.agg [.int .i64 v_0,.int .i64 v_1,.int .i64 v_2]),.p (.int .i64 rise)] [] =
 bif (ltI rise (-2097152:Int)) then
  some ([.p (.agg [.int .i64 v_0,.int .i64 v_1,.int .i64 v_2]),.p (.bool false)],[])
 else
  bif (gtI rise (2097152:Int)) then
   some ([.p (.agg [.int .i64 v_0,.int .i64 v_1,.int .i64 v_2]),.p (.bool false)],[])
  else
   (C 42 [.p (.agg [.int .i64 v_0,.int .i64 v_1,.int .i64 (IntKind.i64.wrap (v_2+rise))])] []).bind fun r1 =>
   some ([.p (.agg [.int .i64 v_0,.int .i64 v_1,.int .i64 (IntKind.i64.wrap (v_2+rise))]),.p (.bool ((r1.1.headD .undef).pv.toBool))],[]):=by kernel_rfl
theorem e64 (C:CallF) (at__0 at__1 at__2 from_ to:Int):acallI tab C 64 [.p (.agg [.int .i64 at__0,.int .i64 at__1,.int .i64 at__2]),.p (.int .i64 from_),.p (.int .i64 to)] [] =
 bif (from_==to) then
  some ([.fresh true kSg []],[])
 else
  (C 65 [.p (.agg [.int .i64 at__0,.int .i64 at__1,.int .i64 at__2]),.p (.agg [.int .i64 at__0,.int .i64 at__1,.int .i64 at__2]),.p (.int .i64 from_),.p (.int .i64 to),.p (.int .i64 2)] []).bind fun r1 =>
  some ([.fresh true kSg [.agg [.int .i64 (((r1.1.headD .undef).pv.cell 0).toInt),.int .i64 (((r1.1.headD .undef).pv.cell 1).toInt),.int .i64 (((r1.1.headD .undef).pv.cell 2).toInt),.list false [.int .i64] (((r1.1.headD .undef).pv.cell 3).toList),.list false [.int .i64] (((r1.1.headD .undef).pv.cell 4).toList),.list false [.int .i64] (((r1.1.headD .undef).pv.cell 5).toList)]]],[]):=by kernel_rfl
theorem e65 (C:CallF) (a_0 a_1 a_2 b_0 b_1 b_2 from_ to kind:Int):acallI tab C 65 [.p (.agg [.int .i64 a_0,.int .i64 a_1,.int .i64 a_2]),.p (.agg [.int .i64 b_0,.int .i64 b_1,.int .i64 b_2]),.p (.int .i64 from_),.p (.int .i64 to),.p (.int .i64 kind)] [] =
 (C 74 [.p (.int .i64 a_0),.p (.int .i64 b_0),.p (.int .i64 kind)] []).bind fun r1 =>
 (C 74 [.p (.int .i64 a_1),.p (.int .i64 b_1),.p (.int .i64 kind)] []).bind fun r2 =>
 (C 74 [.p (.int .i64 a_2),.p (.int .i64 b_2),.p (.int .i64 kind)] []).bind fun r3 =>
 some ([.p (.agg [.int .i64 from_,.int .i64 to,.int .i64 1,.list false [.int .i64] ((((r1.1.headD .undef).freshList).drop 0).take ((r1.1.headD .undef).freshList.length)),.list false [.int .i64] ((((r2.1.headD .undef).freshList).drop 0).take ((r2.1.headD .undef).freshList.length)),.list false [.int .i64] ((((r3.1.headD .undef).freshList).drop 0).take ((r3.1.headD .undef).freshList.length))])],[]):=by kernel_rfl
theorem e66 (C:CallF) (a_0 a_1 a_2 b_0 b_1 b_2 rise from_ to:Int):acallI tab C 66 [.p (.agg [.int .i64 a_0,.int .i64 a_1,.int .i64 a_2]),.p (.agg [.int .i64 b_0,.int .i64 b_1,.int .i64 b_2]),.p (.int .i64 rise),.p (.int .i64 from_),.p (.int .i64 to)] [] =
 (C 42 [.p (.agg [.int .i64 a_0,.int .i64 a_1,.int .i64 a_2])] []).bind fun r1 =>
 bif (!(r1.1.headD .undef).pv.toBool) then
  some ([.fresh true kSg [],.p (.int .i64 2)],[])
 else
  (C 42 [.p (.agg [.int .i64 b_0,.int .i64 b_1,.int .i64 b_2])] []).bind fun r2 =>
  bif (!(r2.1.headD .undef).pv.toBool) then
   some ([.fresh true kSg [],.p (.int .i64 2)],[])
  else
   (C 75 [.p (.int .i64 from_),.p (.int .i64 to)] []).bind fun r3 =>
   bif (!(r3.1.headD .undef).pv.toBool) then
    some ([.fresh true kSg [],.p (.int .i64 2)],[])
   else
    (C 63 [.p (.agg [.int .i64 a_0,.int .i64 a_1,.int .i64 a_2]),.p (.int .i64 rise)] []).bind fun r4 =>
    (C 63 [.p (.agg [.int .i64 b_0,.int .i64 b_1,.int .i64 b_2]),.p (.int .i64 rise)] []).bind fun r5 =>
    bif (((IntKind.i64.wrap (to-from_)).tmod (4:Int)) != (0:Int)) then
     some ([.fresh true kSg [],.p (.int .i64 3)],[])
    else
     bif (!(r4.1.tail.headD .undef).pv.toBool) then
      some ([.fresh true kSg [],.p (.int .i64 3)],[])
     else
      bif (!(r5.1.tail.headD .undef).pv.toBool) then
       some ([.fresh true kSg [],.p (.int .i64 3)],[])
      else
       (C 65 [.p (.agg [.int .i64 a_0,.int .i64 a_1,.int .i64 a_2]),.p (.agg [.int .i64 (((r4.1.headD .undef).pv.cell 0).toInt),.int .i64 (((r4.1.headD .undef).pv.cell 1).toInt),.int .i64 (((r4.1.headD .undef).pv.cell 2).toInt)]),.p (.int .i64 from_),.p (.int .i64 (IntKind.i64.wrap (from_+(IntKind.i64.wrap ((IntKind.i64.wrap (to-from_)).tdiv (4:Int)))))),.p (.int .i64 0)] []).bind fun r6 =>
       (C 65 [.p (.agg [.int .i64 (((r4.1.headD .undef).pv.cell 0).toInt),.int .i64 (((r4.1.headD .undef).pv.cell 1).toInt),.int .i64 (((r4.1.headD .undef).pv.cell 2).toInt)]),.p (.agg [.int .i64 (((r5.1.headD .undef).pv.cell 0).toInt),.int .i64 (((r5.1.headD .undef).pv.cell 1).toInt),.int .i64 (((r5.1.headD .undef).pv.cell 2).toInt)]),.p (.int .i64 (IntKind.i64.wrap (from_+(IntKind.i64.wrap ((IntKind.i64.wrap (to-from_)).tdiv (4:Int)))))),.p (.int .i64 (IntKind.i64.wrap (from_+(IntKind.i64.wrap ((3:Int)*(IntKind.i64.wrap ((IntKind.i64.wrap (to-from_)).tdiv (4:Int)))))))),.p (.int .i64 0)] []).bind fun r7 =>
       (C 65 [.p (.agg [.int .i64 (((r5.1.headD .undef).pv.cell 0).toInt),.int .i64 (((r5.1.headD .undef).pv.cell 1).toInt),.int .i64 (((r5.1.headD .undef).pv.cell 2).toInt)]),.p (.agg [.int .i64 b_0,.int .i64 b_1,.int .i64 b_2]),.p (.int .i64 (IntKind.i64.wrap (from_+(IntKind.i64.wrap ((3:Int)*(IntKind.i64.wrap ((IntKind.i64.wrap (to-from_)).tdiv (4:Int)))))))),.p (.int .i64 to),.p (.int .i64 0)] []).bind fun r8 =>
       some ([.fresh true kSg [.agg [.int .i64 (((r6.1.headD .undef).pv.cell 0).toInt),.int .i64 (((r6.1.headD .undef).pv.cell 1).toInt),.int .i64 (((r6.1.headD .undef).pv.cell 2).toInt),.list false [.int .i64] (((r6.1.headD .undef).pv.cell 3).toList),.list false [.int .i64] (((r6.1.headD .undef).pv.cell 4).toList),.list false [.int .i64] (((r6.1.headD .undef).pv.cell 5).toList)],.agg [.int .i64 (((r7.1.headD .undef).pv.cell 0).toInt),.int .i64 (((r7.1.headD .undef).pv.cell 1).toInt),.int .i64 (((r7.1.headD .undef).pv.cell 2).toInt),.list false [.int .i64] (((r7.1.headD .undef).pv.cell 3).toList),.list false [.int .i64] (((r7.1.headD .undef).pv.cell 4).toList),.list false [.int .i64] (((r7.1.headD .undef).pv.cell 5).toList)],.agg [.int .i64 (((r8.1.headD .undef).pv.cell 0).toInt),.int .i64 (((r8.1.headD .undef).pv.cell 1).toInt),.int .i64 (((r8.1.headD .undef).pv.cell 2).toInt),.list false [.int .i64] (((r8.1.headD .undef).pv.cell 3).toList),.list false [.int .i64] (((r8.1.headD .undef).pv.cell 4).toList),.list false [.int .i64] (((r8.1.headD .undef).pv.cell 5).toList)]],.p (.int .i64 0)],[]):=by kernel_rfl
def S70_1010 (most':Int)(t7':List PV)(t8' t9':Int):St:=⟨(.p (.int .i64 most'))::.undef::.undef::.undef::.undef::.undef::.undef::(.p (.list false [.int .i64] t7'))::(.p (.int .i64 t8'))::(.p (.int .i64 t9'))::List.replicate 13 .undef,[]⟩
theorem e70 (C:CallF) (most:Int)(numbers:List PV):acallI tab C 70 [.p (.int .i64 most),.p (.list false [.int .i64] numbers)] [] =
 L tab C 70 [] [.lp [1,0,1,0]] (S70_1010 most numbers ((numbers.length:Nat):Int) 0):=by kernel_rfl
theorem e70_1010 (C:CallF) (most':Int)(t7':List PV)(t8' t9':Int):R tab C 70 [] [.lp [1,0,1,0]] (S70_1010 most' t7' t8' t9') =
 bif (ltI t9' t8') then
  bif ((leI (0:Int) t9')&&(ltI t9' ((t7'.length:Nat):Int))) then bif (ltI (((t7'.getD t9'.toNat .nil).cell 0).toInt) (IntKind.i64.wrap (0-most'))) then
   some ([.p (.bool false)],[])
  else
   bif (gtI (((t7'.getD t9'.toNat .nil).cell 0).toInt) most') then
    some ([.p (.bool false)],[])
   else
    L tab C 70 [] [.lp [1,0,1,0]] (S70_1010 most' t7' t8' (IntKind.i64.wrap (t9'+(1:Int)))) else none
 else
  some ([.p (.bool true)],[]):=by kernel_rfl
theorem e71 (C:CallF) (n_:Int):acallI tab C 71 [.p (.int .i64 n_)] [] =
 (C 79 [.p (.int .i64 n_),.p (.int .i64 3600000)] []).bind fun r1 =>
 some ([.p (.bool ((r1.1.headD .undef).pv.toBool))],[]):=by kernel_rfl
theorem e72 (C:CallF) (from__0 from__1 from__2 m_0 m_1 m_2 m_3 m_4 m_5 length:Int):acallI tab C 72 [.p (.agg [.int .i64 from__0,.int .i64 from__1,.int .i64 from__2]),.p (.agg [.int .i64 m_0,.int .i64 m_1,.int .i64 m_2,.int .i64 m_3,.int .i64 m_4,.int .i64 m_5]),.p (.int .i64 length)] [] =
 (C 58 [.p (.agg [.int .i64 m_0,.int .i64 m_1,.int .i64 m_2])] []).bind fun r1 =>
 bif (!(r1.1.headD .undef).pv.toBool) then
  some ([.p (.bool false)],[])
 else
  (C 71 [.p (.int .i64 m_3)] []).bind fun r2 =>
  bif (!(r2.1.headD .undef).pv.toBool) then
   some ([.p (.bool false)],[])
  else
   (C 71 [.p (.int .i64 m_4)] []).bind fun r3 =>
   bif (!(r3.1.headD .undef).pv.toBool) then
    some ([.p (.bool false)],[])
   else
    (C 71 [.p (.int .i64 m_5)] []).bind fun r4 =>
    bif (!(r4.1.headD .undef).pv.toBool) then
     some ([.p (.bool false)],[])
    else
     bif (gtI (IntKind.i64.wrap (m_3+m_4)) length) then
      some ([.p (.bool false)],[])
     else
      bif (m_4==(0:Int)) then
       bif ((m_0==from__0)&&((m_1==from__1)&&((m_2==from__2)&&true))) then
        some ([.p (.bool (m_5==(0:Int)))],[])
       else
        some ([.p (.bool false)],[])
      else
       bif (gtI m_5 (0:Int)) then
        bif ((m_4.tmod (4:Int))==(0:Int)) then
         (C 80 [.p (.agg [.int .i64 from__0,.int .i64 from__1,.int .i64 from__2]),.p (.int .i64 m_5)] []).bind fun r5 =>
         bif (r5.1.headD .undef).pv.toBool then
          (C 80 [.p (.agg [.int .i64 m_0,.int .i64 m_1,.int .i64 m_2]),.p (.int .i64 m_5)] []).bind fun r6 =>
          some ([.p (.bool ((r6.1.headD .undef).pv.toBool))],[])
         else
          some ([.p (.bool false)],[])
        else
         some ([.p (.bool false)],[])
       else
        some ([.p (.bool true)],[]):=by kernel_rfl
theorem e73 (C:CallF) (from__0 from__1 from__2 m_0 m_1 m_2 m_3 m_4 m_5 at_ length:Int):acallI tab C 73 [.p (.agg [.int .i64 from__0,.int .i64 from__1,.int .i64 from__2]),.p (.agg [.int .i64 m_0,.int .i64 m_1,.int .i64 m_2,.int .i64 m_3,.int .i64 m_4,.int .i64 m_5]),.p (.int .i64 at_),.p (.int .i64 length)] [] =
 bif (m_4==(0:Int)) then
  (C 81 [.p (.agg [.int .i64 from__0,.int .i64 from__1,.int .i64 from__2]),.p (.int .i64 at_),.p (.int .i64 (IntKind.i64.wrap (at_+length))),.ptr 100000 0 0] [.box [.slice 99999 6 0 0],.arr true kSg []]).bind fun r1 =>
  some ([.fresh true kSg (((varXs r1.2).drop ((varV r1.2).sOff)).take ((varV r1.2).sLen))],[])
 else
  (C 81 [.p (.agg [.int .i64 from__0,.int .i64 from__1,.int .i64 from__2]),.p (.int .i64 at_),.p (.int .i64 (IntKind.i64.wrap (at_+m_3))),.ptr 100000 0 0] [.box [.slice 99999 6 0 0],.arr true kSg []]).bind fun r2 =>
  (C 83 [.p (.agg [.int .i64 from__0,.int .i64 from__1,.int .i64 from__2]),.p (.agg [.int .i64 m_0,.int .i64 m_1,.int .i64 m_2]),.p (.int .i64 (IntKind.i64.wrap (at_+m_3))),.p (.int .i64 (IntKind.i64.wrap ((IntKind.i64.wrap (at_+m_3))+m_4)))] []).bind fun r3 =>
  bif (gtI m_5 (0:Int)) then
   (C 84 [.p (.agg [.int .i64 from__0,.int .i64 from__1,.int .i64 from__2]),.p (.agg [.int .i64 m_0,.int .i64 m_1,.int .i64 m_2]),.p (.int .i64 m_5),.p (.int .i64 (IntKind.i64.wrap (at_+m_3))),.p (.int .i64 (IntKind.i64.wrap ((IntKind.i64.wrap (at_+m_3))+m_4)))] []).bind fun r4 =>
   bif (leN ((varV r2.2).sLen+(r4.1.headD .undef).freshList.length) 2147483648) then(C 81 [.p (.agg [.int .i64 m_0,.int .i64 m_1,.int .i64 m_2]),.p (.int .i64 (IntKind.i64.wrap ((IntKind.i64.wrap (at_+m_3))+m_4))),.p (.int .i64 (IntKind.i64.wrap (at_+length))),.ptr 100000 0 0] [.box [.slice 99999 6 0 ((varV r2.2).sLen+(r4.1.headD .undef).freshList.length)],.arr true kSg ((((varXs r2.2).drop ((varV r2.2).sOff)).take ((varV r2.2).sLen))++((((r4.1.headD .undef).freshList).drop 0).take ((r4.1.headD .undef).freshList.length)))]).bind fun r5 =>
   some ([.fresh true kSg (((varXs r5.2).drop ((varV r5.2).sOff)).take ((varV r5.2).sLen))],[]) else none
  else
   bif (leN ((varV r2.2).sLen+(r3.1.headD .undef).freshList.length) 2147483648) then(C 81 [.p (.agg [.int .i64 m_0,.int .i64 m_1,.int .i64 m_2]),.p (.int .i64 (IntKind.i64.wrap ((IntKind.i64.wrap (at_+m_3))+m_4))),.p (.int .i64 (IntKind.i64.wrap (at_+length))),.ptr 100000 0 0] [.box [.slice 99999 6 0 ((varV r2.2).sLen+(r3.1.headD .undef).freshList.length)],.arr true kSg ((((varXs r2.2).drop ((varV r2.2).sOff)).take ((varV r2.2).sLen))++((((r3.1.headD .undef).freshList).drop 0).take ((r3.1.headD .undef).freshList.length)))]).bind fun r6 =>
   some ([.fresh true kSg (((varXs r6.2).drop ((varV r6.2).sOff)).take ((varV r6.2).sLen))],[]) else none:=by kernel_rfl
theorem e74 (C:CallF) (a b kind:Int):acallI tab C 74 [.p (.int .i64 a),.p (.int .i64 b),.p (.int .i64 kind)] [] =
 bif ((IntKind.i64.wrap (b-a))==(0:Int)) then
  some ([.fresh false [.int .i64] [.int .i64 a]],[])
 else
  bif (kind==(2:Int)) then
   some ([.fresh false [.int .i64] [.int .i64 a]],[])
  else
   bif (kind==(1:Int)) then
    some ([.fresh false [.int .i64] [.int .i64 a,.int .i64 (IntKind.i64.wrap (b-a))]],[])
   else
    some ([.fresh false [.int .i64] [.int .i64 a,.int .i64 0,.int .i64 0,.int .i64 (IntKind.i64.wrap ((10:Int)*(IntKind.i64.wrap (b-a)))),.int .i64 (IntKind.i64.wrap ((-15:Int)*(IntKind.i64.wrap (b-a)))),.int .i64 (IntKind.i64.wrap ((6:Int)*(IntKind.i64.wrap (b-a))))]],[]):=by kernel_rfl
theorem e75 (C:CallF) (from_ to:Int):acallI tab C 75 [.p (.int .i64 from_),.p (.int .i64 to)] [] =
 bif (geI from_ (0:Int)) then
  bif (ltI from_ to) then
   some ([.p (.bool (leI to (3600000:Int)))],[])
  else
   some ([.p (.bool false)],[])
 else
  some ([.p (.bool false)],[]):=by kernel_rfl
theorem e79 (C:CallF) (n_ most:Int):acallI tab C 79 [.p (.int .i64 n_),.p (.int .i64 most)] [] =
 bif (leI (0:Int) n_) then
  some ([.p (.bool (leI n_ most))],[])
 else
  some ([.p (.bool false)],[]):=by kernel_rfl
theorem e80 (C:CallF) (v_0 v_1 v_2 rise:Int):acallI tab C 80 [.p (.agg [.int .i64 v_0,.int .i64 v_1,.int .i64 v_2]),.p (.int .i64 rise)] [] =
 (C 58 [.p (.agg [.int .i64 v_0,.int .i64 v_1,.int .i64 (IntKind.i64.wrap (v_2+rise))])] []).bind fun r1 =>
 some ([.p (.bool ((r1.1.headD .undef).pv.toBool))],[]):=by kernel_rfl
theorem e81 (C:CallF) (v_0 v_1 v_2 from_ to:Int)(v0_o v0_l:Nat)(v0_b:List PV):acallI tab C 81 [.p (.agg [.int .i64 v_0,.int .i64 v_1,.int .i64 v_2]),.p (.int .i64 from_),.p (.int .i64 to),.ptr 100000 0 0] [.box [.slice 99999 6 v0_o v0_l],.arr true kSg v0_b] =
 (C 82 [.p (.agg [.int .i64 v_0,.int .i64 v_1,.int .i64 v_2]),.p (.int .i64 from_),.p (.int .i64 to)] []).bind fun r1 =>
 bif (leN (v0_l+(r1.1.headD .undef).freshList.length) 2147483648) then some ([],[.box [.slice 99999 6 0 (v0_l+(r1.1.headD .undef).freshList.length)],.arr true kSg (((v0_b.drop v0_o).take v0_l)++((((r1.1.headD .undef).freshList).drop 0).take ((r1.1.headD .undef).freshList.length)))]) else none:=by kernel_rfl
theorem e82 (C:CallF) (at__0 at__1 at__2 from_ to:Int):acallI tab C 82 [.p (.agg [.int .i64 at__0,.int .i64 at__1,.int .i64 at__2]),.p (.int .i64 from_),.p (.int .i64 to)] [] =
 (C 88 [.p (.agg [.int .i64 at__0,.int .i64 at__1,.int .i64 at__2]),.p (.agg [.int .i64 at__0,.int .i64 at__1,.int .i64 at__2]),.p (.int .i64 from_),.p (.int .i64 to),.p (.int .i64 0)] []).bind fun r1 =>
 some ([.fresh true kSg ((((r1.1.headD .undef).freshList).drop 0).take ((r1.1.headD .undef).freshList.length)),.p (.int .i64 ((r1.1.tail.headD .undef).pv.toInt))],[]):=by kernel_rfl
theorem e83 (C:CallF) (a_0 a_1 a_2 b_0 b_1 b_2 from_ to:Int):acallI tab C 83 [.p (.agg [.int .i64 a_0,.int .i64 a_1,.int .i64 a_2]),.p (.agg [.int .i64 b_0,.int .i64 b_1,.int .i64 b_2]),.p (.int .i64 from_),.p (.int .i64 to)] [] =
 (C 88 [.p (.agg [.int .i64 a_0,.int .i64 a_1,.int .i64 a_2]),.p (.agg [.int .i64 b_0,.int .i64 b_1,.int .i64 b_2]),.p (.int .i64 from_),.p (.int .i64 to),.p (.int .i64 2)] []).bind fun r1 =>
 some ([.fresh true kSg ((((r1.1.headD .undef).freshList).drop 0).take ((r1.1.headD .undef).freshList.length)),.p (.int .i64 ((r1.1.tail.headD .undef).pv.toInt))],[]):=by kernel_rfl
theorem e84 (C:CallF) (a_0 a_1 a_2 b_0 b_1 b_2 rise from_ to:Int):acallI tab C 84 [.p (.agg [.int .i64 a_0,.int .i64 a_1,.int .i64 a_2]),.p (.agg [.int .i64 b_0,.int .i64 b_1,.int .i64 b_2]),.p (.int .i64 rise),.p (.int .i64 from_),.p (.int .i64 to)] [] =
 (C 89 [.p (.agg [.int .i64 a_0,.int .i64 a_1,.int .i64 a_2]),.p (.agg [.int .i64 b_0,.int .i64 b_1,.int .i64 b_2]),.p (.int .i64 from_),.p (.int .i64 to)] []).bind fun r1 =>
 bif (!(r1.1.headD .undef).pv.toBool) then
  some ([.fresh true kSg [],.p (.int .i64 2)],[])
 else
  bif ((IntKind.i64.wrap ((4:Int)*(IntKind.i64.wrap ((IntKind.i64.wrap (to-from_)).tdiv (4:Int))))) != (IntKind.i64.wrap (to-from_))) then
   some ([.fresh true kSg [],.p (.int .i64 3)],[])
  else
   bif (ltI rise (-2097152:Int)) then
    some ([.fresh true kSg [],.p (.int .i64 3)],[])
   else
    bif (gtI rise (2097152:Int)) then
     some ([.fresh true kSg [],.p (.int .i64 3)],[])
    else
     (C 58 [.p (.agg [.int .i64 a_0,.int .i64 a_1,.int .i64 (IntKind.i64.wrap (a_2+rise))])] []).bind fun r2 =>
     bif (!(r2.1.headD .undef).pv.toBool) then
      some ([.fresh true kSg [],.p (.int .i64 3)],[])
     else
      (C 58 [.p (.agg [.int .i64 b_0,.int .i64 b_1,.int .i64 (IntKind.i64.wrap (b_2+rise))])] []).bind fun r3 =>
      bif (!(r3.1.headD .undef).pv.toBool) then
       some ([.fresh true kSg [],.p (.int .i64 3)],[])
      else
       (C 90 [.p (.list true kV3 [.agg [.int .i64 a_0,.int .i64 a_1,.int .i64 a_2],.agg [.int .i64 a_0,.int .i64 a_1,.int .i64 (IntKind.i64.wrap (a_2+rise))],.agg [.int .i64 b_0,.int .i64 b_1,.int .i64 (IntKind.i64.wrap (b_2+rise))],.agg [.int .i64 b_0,.int .i64 b_1,.int .i64 b_2]]),.p (.list false [.int .i64] [.int .i64 from_,.int .i64 (IntKind.i64.wrap (from_+(IntKind.i64.wrap ((IntKind.i64.wrap (to-from_)).tdiv (4:Int))))),.int .i64 (IntKind.i64.wrap (to-(IntKind.i64.wrap ((IntKind.i64.wrap (to-from_)).tdiv (4:Int))))),.int .i64 to])] []).bind fun r4 =>
       some ([.fresh true kSg ((((r4.1.headD .undef).freshList).drop 0).take ((r4.1.headD .undef).freshList.length)),.p (.int .i64 ((r4.1.tail.headD .undef).pv.toInt))],[]):=by kernel_rfl
theorem e88 (C:CallF) (a_0 a_1 a_2 b_0 b_1 b_2 from_ to k:Int):acallI tab C 88 [.p (.agg [.int .i64 a_0,.int .i64 a_1,.int .i64 a_2]),.p (.agg [.int .i64 b_0,.int .i64 b_1,.int .i64 b_2]),.p (.int .i64 from_),.p (.int .i64 to),.p (.int .i64 k)] [] =
 (C 89 [.p (.agg [.int .i64 a_0,.int .i64 a_1,.int .i64 a_2]),.p (.agg [.int .i64 b_0,.int .i64 b_1,.int .i64 b_2]),.p (.int .i64 from_),.p (.int .i64 to)] []).bind fun r1 =>
 bif (!(r1.1.headD .undef).pv.toBool) then
  some ([.fresh true kSg [],.p (.int .i64 2)],[])
 else
  (C 94 [.p (.agg [.int .i64 a_0,.int .i64 a_1,.int .i64 a_2]),.p (.agg [.int .i64 b_0,.int .i64 b_1,.int .i64 b_2]),.p (.int .i64 from_),.p (.int .i64 to),.p (.int .i64 k)] []).bind fun r2 =>
  some ([.fresh true kSg [.agg [.int .i64 (((r2.1.headD .undef).pv.cell 0).toInt),.int .i64 (((r2.1.headD .undef).pv.cell 1).toInt),.int .i64 (((r2.1.headD .undef).pv.cell 2).toInt),.list false [.int .i64] (((r2.1.headD .undef).pv.cell 3).toList),.list false [.int .i64] (((r2.1.headD .undef).pv.cell 4).toList),.list false [.int .i64] (((r2.1.headD .undef).pv.cell 5).toList)]],.p (.int .i64 0)],[]):=by kernel_rfl
theorem e89 (C:CallF) (a_0 a_1 a_2 b_0 b_1 b_2 from_ to:Int):acallI tab C 89 [.p (.agg [.int .i64 a_0,.int .i64 a_1,.int .i64 a_2]),.p (.agg [.int .i64 b_0,.int .i64 b_1,.int .i64 b_2]),.p (.int .i64 from_),.p (.int .i64 to)] [] =
 (C 58 [.p (.agg [.int .i64 a_0,.int .i64 a_1,.int .i64 a_2])] []).bind fun r1 =>
 bif (r1.1.headD .undef).pv.toBool then
  (C 58 [.p (.agg [.int .i64 b_0,.int .i64 b_1,.int .i64 b_2])] []).bind fun r2 =>
  bif (r2.1.headD .undef).pv.toBool then
   bif (leI (0:Int) from_) then
    bif (ltI from_ to) then
     some ([.p (.bool (leI to (3600000:Int)))],[])
    else
     some ([.p (.bool false)],[])
   else
    some ([.p (.bool false)],[])
  else
   some ([.p (.bool false)],[])
 else
  some ([.p (.bool false)],[]):=by kernel_rfl
def S90_111010 (points' times':List PV)(last':Int)(t21':List PV)(t22' t23':Int):St:=⟨(.p (.list true kV3 points'))::(.p (.list false [.int .i64] times'))::.undef::.undef::.undef::.undef::(.p (.int .i64 last'))::.undef::.undef::.undef::.undef::.undef::.undef::.undef::.undef::.undef::.undef::.undef::.undef::.undef::.undef::(.p (.list false [.int .i64] t21'))::(.p (.int .i64 t22'))::(.p (.int .i64 t23'))::List.replicate 33 .undef,[]⟩
def S90_111111010 (t50_c0_r0 t50_c1_r0:List PV):St:=⟨.undef::.undef::.undef::.undef::.undef::.undef::.undef::.undef::.undef::(.ptr 9 0 0)::.undef::.undef::.undef::.undef::.undef::.undef::.undef::.undef::.undef::.undef::.undef::.undef::.undef::.undef::.undef::.undef::.undef::.undef::.undef::.undef::.undef::.undef::.undef::.undef::.undef::.undef::.undef::.undef::.undef::.undef::.undef::.undef::.undef::.undef::.undef::.undef::.undef::.undef::.undef::.undef::(.p (.fn 103 [.ref [.list true kV3 t50_c0_r0],.ref [.list false [.int .i64] t50_c1_r0]]))::List.replicate 6 .undef,[(9,.box [.p (.nil)])]⟩
def S90_111111010_s1 (t50_c0_r0 t50_c1_r0:List PV)(p_b0_o p_b0_l:Nat)(b55_b:List PV):St:=⟨.undef::.undef::.undef::.undef::.undef::.undef::.undef::.undef::.undef::(.ptr 9 0 0)::.undef::.undef::.undef::.undef::.undef::.undef::.undef::.undef::.undef::.undef::.undef::.undef::.undef::.undef::.undef::.undef::.undef::.undef::.undef::.undef::.undef::.undef::.undef::.undef::.undef::.undef::.undef::.undef::.undef::.undef::.undef::.undef::.undef::.undef::.undef::.undef::.undef::.undef::.undef::.undef::(.p (.fn 103 [.ref [.list true kV3 t50_c0_r0],.ref [.list false [.int .i64] t50_c1_r0]]))::List.replicate 6 .undef,[(9,.box [.slice 55 6 p_b0_o p_b0_l]),(55,.arr true kSg b55_b)]⟩
theorem e90 (C:CallF) (points times:List PV):acallI tab C 90 [.p (.list true kV3 points),.p (.list false [.int .i64] times)] [] =
 bif (ltI ((points.length:Nat):Int) (2:Int)) then
  some ([.fresh true kSg [],.p (.int .i64 2)],[])
 else
  bif (((points.length:Nat):Int) != ((times.length:Nat):Int)) then
   some ([.fresh true kSg [],.p (.int .i64 2)],[])
  else
   L tab C 90 [] [.lp [1,1,1,0,1,0]] (S90_111010 points times (-1) times ((times.length:Nat):Int) 0):=by kernel_rfl
theorem e90_111010 (C:CallF) (points' times':List PV)(last':Int)(t21':List PV)(t22' t23':Int):R tab C 90 [] [.lp [1,1,1,0,1,0]] (S90_111010 points' times' last' t21' t22' t23') =
 bif (ltI t23' t22') then
  bif ((leI (0:Int) t23')&&(ltI t23' ((t21'.length:Nat):Int))) then bif ((leI (0:Int) t23')&&(ltI t23' ((points'.length:Nat):Int))) then(C 58 [.p (.agg [.int .i64 (((points'.getD t23'.toNat .nil).cell 0).toInt),.int .i64 (((points'.getD t23'.toNat .nil).cell 1).toInt),.int .i64 (((points'.getD t23'.toNat .nil).cell 2).toInt)])] []).bind fun r1 =>
  bif (!(r1.1.headD .undef).pv.toBool) then
   some ([.fresh true kSg [],.p (.int .i64 2)],[])
  else
   bif (leI (((t21'.getD t23'.toNat .nil).cell 0).toInt) last') then
    some ([.fresh true kSg [],.p (.int .i64 2)],[])
   else
    bif (gtI (((t21'.getD t23'.toNat .nil).cell 0).toInt) (3600000:Int)) then
     some ([.fresh true kSg [],.p (.int .i64 2)],[])
    else
     L tab C 90 [] [.lp [1,1,1,0,1,0]] (S90_111010 points' times' (((t21'.getD t23'.toNat .nil).cell 0).toInt) t21' t22' (IntKind.i64.wrap (t23'+(1:Int)))) else none else none
 else
  bif (gtI ((points'.length:Nat):Int) (257:Int)) then
   some ([.fresh true kSg [],.p (.int .i64 7)],[])
  else
   (C 95 [.p (.list true kV3 points'),.p (.list false [.int .i64] times')] []).bind fun r2 =>
   (C 103 [.yld,.p (.ref [.list true kV3 ((((r2.1.headD .undef).pv.cap 0).rcell 0).toList)]),.p (.ref [.list false [.int .i64] ((((r2.1.headD .undef).pv.cap 1).rcell 0).toList)])] [.log true []]).bind fun r3 =>
   L tab C 90 [] [.rg [1,1,1,1,1,1,0,1,0] [(true,kSg)] (logOf r3.2)] (S90_111111010 ((((r2.1.headD .undef).pv.cap 0).rcell 0).toList) ((((r2.1.headD .undef).pv.cap 1).rcell 0).toList)):=by kernel_rfl
theorem e90_111111010_cons (C:CallF) (t50_c0_r0 t50_c1_r0:List PV)(y0_0 y0_1 y0_2:Int)(y0_3 y0_4 y0_5 ys:List PV):L tab C 90 [] [.rg [1,1,1,1,1,1,0,1,0] [(true,kSg)] (.agg [.agg [.int .i64 y0_0,.int .i64 y0_1,.int .i64 y0_2,.list false [.int .i64] y0_3,.list false [.int .i64] y0_4,.list false [.int .i64] y0_5]]::ys)] (S90_111111010 t50_c0_r0 t50_c1_r0) =
 L tab C 90 [] [.rg [1,1,1,1,1,1,0,1,0] [(true,kSg)] ys] (S90_111111010_s1 t50_c0_r0 t50_c1_r0 0 1 [.agg [.int .i64 y0_0,.int .i64 y0_1,.int .i64 y0_2,.list false [.int .i64] y0_3,.list false [.int .i64] y0_4,.list false [.int .i64] y0_5]]):=by kernel_rfl
theorem e90_111111010_s1_nil (C:CallF) (t50_c0_r0 t50_c1_r0:List PV)(p_b0_o p_b0_l:Nat)(b55_b:List PV):L tab C 90 [] [.rg [1,1,1,1,1,1,0,1,0] [(true,kSg)] []] (S90_111111010_s1 t50_c0_r0 t50_c1_r0 p_b0_o p_b0_l b55_b) =
 some ([.fresh true kSg ((b55_b.drop p_b0_o).take p_b0_l),.p (.int .i64 0)],[]):=by kernel_rfl
theorem e90_111111010_s1_cons (C:CallF) (t50_c0_r0 t50_c1_r0:List PV)(p_b0_o p_b0_l:Nat)(b55_b:List PV)(y0_0 y0_1 y0_2:Int)(y0_3 y0_4 y0_5 ys:List PV):L tab C 90 [] [.rg [1,1,1,1,1,1,0,1,0] [(true,kSg)] (.agg [.agg [.int .i64 y0_0,.int .i64 y0_1,.int .i64 y0_2,.list false [.int .i64] y0_3,.list false [.int .i64] y0_4,.list false [.int .i64] y0_5]]::ys)] (S90_111111010_s1 t50_c0_r0 t50_c1_r0 p_b0_o p_b0_l b55_b) =
 bif (leN (p_b0_l+1) 2147483648) then L tab C 90 [] [.rg [1,1,1,1,1,1,0,1,0] [(true,kSg)] ys] (S90_111111010_s1 t50_c0_r0 t50_c1_r0 0 (p_b0_l+1) (((b55_b.drop p_b0_o).take p_b0_l)++([.agg [.int .i64 y0_0,.int .i64 y0_1,.int .i64 y0_2,.list false [.int .i64] y0_3,.list false [.int .i64] y0_4,.list false [.int .i64] y0_5]]:List PV))) else none:=by kernel_rfl
theorem e94 (C:CallF) (a_0 a_1 a_2 b_0 b_1 b_2 from_ to k:Int):acallI tab C 94 [.p (.agg [.int .i64 a_0,.int .i64 a_1,.int .i64 a_2]),.p (.agg [.int .i64 b_0,.int .i64 b_1,.int .i64 b_2]),.p (.int .i64 from_),.p (.int .i64 to),.p (.int .i64 k)] [] =
 (C 101 [] []).bind fun r1 =>
 bif (r1.1.headD .undef).pv.isMap then bif (keyFind tab 133 (PV.int .i64 k) ((r1.1.headD .undef).pv.mkeys.zip (r1.1.headD .undef).pv.mvals)).isSome then bif (kindOk (.slice false [.int .i64]) (mapAt (PV.nil) ((r1.1.headD .undef).pv.mkeys.zip (r1.1.headD .undef).pv.mvals) ((keyFind tab 133 (PV.int .i64 k) ((r1.1.headD .undef).pv.mkeys.zip (r1.1.headD .undef).pv.mvals)).getD none))) then(C 102 [.p (.int .i64 a_0),.p (.int .i64 b_0),.p (.list false [.int .i64] ((mapAt (PV.nil) ((r1.1.headD .undef).pv.mkeys.zip (r1.1.headD .undef).pv.mvals) ((keyFind tab 133 (PV.int .i64 k) ((r1.1.headD .undef).pv.mkeys.zip (r1.1.headD .undef).pv.mvals)).getD none)).toList))] []).bind fun r2 =>
 (C 102 [.p (.int .i64 a_1),.p (.int .i64 b_1),.p (.list false [.int .i64] ((mapAt (PV.nil) ((r1.1.headD .undef).pv.mkeys.zip (r1.1.headD .undef).pv.mvals) ((keyFind tab 133 (PV.int .i64 k) ((r1.1.headD .undef).pv.mkeys.zip (r1.1.headD .undef).pv.mvals)).getD none)).toList))] []).bind fun r3 =>
 (C 102 [.p (.int .i64 a_2),.p (.int .i64 b_2),.p (.list false [.int .i64] ((mapAt (PV.nil) ((r1.1.headD .undef).pv.mkeys.zip (r1.1.headD .undef).pv.mvals) ((keyFind tab 133 (PV.int .i64 k) ((r1.1.headD .undef).pv.mkeys.zip (r1.1.headD .undef).pv.mvals)).getD none)).toList))] []).bind fun r4 =>
 some ([.p (.agg [.int .i64 from_,.int .i64 to,.int .i64 1,.list false [.int .i64] ((((r2.1.headD .undef).freshList).drop 0).take ((r2.1.headD .undef).freshList.length)),.list false [.int .i64] ((((r3.1.headD .undef).freshList).drop 0).take ((r3.1.headD .undef).freshList.length)),.list false [.int .i64] ((((r4.1.headD .undef).freshList).drop 0).take ((r4.1.headD .undef).freshList.length))])],[]) else none else none else none:=by kernel_rfl
theorem e95 (C:CallF) (points times:List PV):acallI tab C 95 [.p (.list true kV3 points),.p (.list false [.int .i64] times)] [] =
 some ([.p (.fn 103 [.ref [.list true kV3 points],.ref [.list false [.int .i64] times]])],[]):=by kernel_rfl
theorem e101 (C:CallF) :acallI tab C 101 [] [] =
 bif (mapFindL tab 133 (PV.int .i64 0) ([]:List (PV × PV))).isSome then bif (mapFindL tab 133 (PV.int .i64 1) (mapPut ([]:List (PV × PV)) (PV.int .i64 0) (PV.nil) ((mapFindL tab 133 (PV.int .i64 0) ([]:List (PV × PV))).getD none))).isSome then bif (mapFindL tab 133 (PV.int .i64 2) (mapPut (mapPut ([]:List (PV × PV)) (PV.int .i64 0) (PV.nil) ((mapFindL tab 133 (PV.int .i64 0) ([]:List (PV × PV))).getD none)) (PV.int .i64 1) (PV.list false [.int .i64] [.int .i64 1]) ((mapFindL tab 133 (PV.int .i64 1) (mapPut ([]:List (PV × PV)) (PV.int .i64 0) (PV.nil) ((mapFindL tab 133 (PV.int .i64 0) ([]:List (PV × PV))).getD none))).getD none))).isSome then some ([.p (.mapv ((mapPut (mapPut (mapPut ([]:List (PV × PV)) (PV.int .i64 0) (PV.nil) ((mapFindL tab 133 (PV.int .i64 0) ([]:List (PV × PV))).getD none)) (PV.int .i64 1) (PV.list false [.int .i64] [.int .i64 1]) ((mapFindL tab 133 (PV.int .i64 1) (mapPut ([]:List (PV × PV)) (PV.int .i64 0) (PV.nil) ((mapFindL tab 133 (PV.int .i64 0) ([]:List (PV × PV))).getD none))).getD none)) (PV.int .i64 2) (PV.list false [.int .i64] [.int .i64 0,.int .i64 0,.int .i64 10,.int .i64 (-15),.int .i64 6]) ((mapFindL tab 133 (PV.int .i64 2) (mapPut (mapPut ([]:List (PV × PV)) (PV.int .i64 0) (PV.nil) ((mapFindL tab 133 (PV.int .i64 0) ([]:List (PV × PV))).getD none)) (PV.int .i64 1) (PV.list false [.int .i64] [.int .i64 1]) ((mapFindL tab 133 (PV.int .i64 1) (mapPut ([]:List (PV × PV)) (PV.int .i64 0) (PV.nil) ((mapFindL tab 133 (PV.int .i64 0) ([]:List (PV × PV))).getD none))).getD none))).getD none)).map (fun x=>x.1)) ((mapPut (mapPut (mapPut ([]:List (PV × PV)) (PV.int .i64 0) (PV.nil) ((mapFindL tab 133 (PV.int .i64 0) ([]:List (PV × PV))).getD none)) (PV.int .i64 1) (PV.list false [.int .i64] [.int .i64 1]) ((mapFindL tab 133 (PV.int .i64 1) (mapPut ([]:List (PV × PV)) (PV.int .i64 0) (PV.nil) ((mapFindL tab 133 (PV.int .i64 0) ([]:List (PV × PV))).getD none))).getD none)) (PV.int .i64 2) (PV.list false [.int .i64] [.int .i64 0,.int .i64 0,.int .i64 10,.int .i64 (-15),.int .i64 6]) ((mapFindL tab 133 (PV.int .i64 2) (mapPut (mapPut ([]:List (PV × PV)) (PV.int .i64 0) (PV.nil) ((mapFindL tab 133 (PV.int .i64 0) ([]:List (PV × PV))).getD none)) (PV.int .i64 1) (PV.list false [.int .i64] [.int .i64 1]) ((mapFindL tab 133 (PV.int .i64 1) (mapPut ([]:List (PV × PV)) (PV.int .i64 0) (PV.nil) ((mapFindL tab 133 (PV.int .i64 0) ([]:List (PV × PV))).getD none))).getD none))).getD none)).map (fun x=>x.2)))],[]) else none else none else none:=by kernel_rfl
def S102_1101010 (a' b':Int)(c_o c_l:Nat)(t15':List PV)(t16' t17':Int)(c_b:List PV):St:=⟨(.p (.int .i64 a'))::(.p (.int .i64 b'))::.undef::.undef::.undef::.undef::.undef::(.slice 7 1 c_o c_l)::.undef::.undef::.undef::.undef::.undef::.undef::.undef::(.p (.list false [.int .i64] t15'))::(.p (.int .i64 t16'))::(.p (.int .i64 t17'))::List.replicate 13 .undef,[(7,.arr false [.int .i64] c_b)]⟩
theorem e102 (C:CallF) (a b:Int)(row:List PV):acallI tab C 102 [.p (.int .i64 a),.p (.int .i64 b),.p (.list false [.int .i64] row)] [] =
 bif (a != b) then
  L tab C 102 [] [.lp [1,1,0,1,0,1,0]] (S102_1101010 a b 0 1 row ((row.length:Nat):Int) 0 [.int .i64 a])
 else
  some ([.fresh false [.int .i64] [.int .i64 a]],[]):=by kernel_rfl
theorem e102_1101010 (C:CallF) (a' b':Int)(c_o c_l:Nat)(t15':List PV)(t16' t17':Int)(c_b:List PV):R tab C 102 [] [.lp [1,1,0,1,0,1,0]] (S102_1101010 a' b' c_o c_l t15' t16' t17' c_b) =
 bif (ltI t17' t16') then
  bif ((leI (0:Int) t17')&&(ltI t17' ((t15'.length:Nat):Int))) then bif (leN (c_l+1) 2147483648) then L tab C 102 [] [.lp [1,1,0,1,0,1,0]] (S102_1101010 a' b' 0 (c_l+1) t15' t16' (IntKind.i64.wrap (t17'+(1:Int))) (((c_b.drop c_o).take c_l)++([.int .i64 (IntKind.i64.wrap (((t15'.getD t17'.toNat .nil).cell 0).toInt*(IntKind.i64.wrap (b'-a'))))]:List PV))) else none else none
 else
  some ([.fresh false [.int .i64] ((c_b.drop c_o).take c_l)],[]):=by kernel_rfl
def S103_10 (t1_r0 t2_r0:List PV)(i':Int)(b100000_b:List PV):St:=⟨(.yld)::(.p (.ref [.list true kV3 t1_r0]))::(.p (.ref [.list false [.int .i64] t2_r0]))::.undef::(.p (.int .i64 i'))::List.replicate 28 .undef,[(100000,.log true b100000_b)]⟩
theorem e103 (C:CallF) (c0 c1:List PV):acallI tab C 103 [.yld,.p (.ref [.list true kV3 c0]),.p (.ref [.list false [.int .i64] c1])] [.log true []] =
 L tab C 103 [.log true []] [.lp [1,0]] (S103_10 c0 c1 1 []):=by kernel_rfl
theorem e103_10 (C:CallF) (t1_r0 t2_r0:List PV)(i':Int)(b100000_b:List PV):R tab C 103 [.log true []] [.lp [1,0]] (S103_10 t1_r0 t2_r0 i' b100000_b) =
 bif (ltI i' ((t1_r0.length:Nat):Int)) then
  bif ((leI (0:Int) (IntKind.i64.wrap (i'-(1:Int))))&&(ltI (IntKind.i64.wrap (i'-(1:Int))) ((t1_r0.length:Nat):Int))) then bif ((leI (0:Int) i')&&(ltI i' ((t1_r0.length:Nat):Int))) then bif ((leI (0:Int) (IntKind.i64.wrap (i'-(1:Int))))&&(ltI (IntKind.i64.wrap (i'-(1:Int))) ((t2_r0.length:Nat):Int))) then bif ((leI (0:Int) i')&&(ltI i' ((t2_r0.length:Nat):Int))) then(C 94 [.p (.agg [.int .i64 (((t1_r0.getD ((IntKind.i64.wrap (i'-(1:Int))).toNat) .nil).cell 0).toInt),.int .i64 (((t1_r0.getD ((IntKind.i64.wrap (i'-(1:Int))).toNat) .nil).cell 1).toInt),.int .i64 (((t1_r0.getD ((IntKind.i64.wrap (i'-(1:Int))).toNat) .nil).cell 2).toInt)]),.p (.agg [.int .i64 (((t1_r0.getD i'.toNat .nil).cell 0).toInt),.int .i64 (((t1_r0.getD i'.toNat .nil).cell 1).toInt),.int .i64 (((t1_r0.getD i'.toNat .nil).cell 2).toInt)]),.p (.int .i64 (((t2_r0.getD ((IntKind.i64.wrap (i'-(1:Int))).toNat) .nil).cell 0).toInt)),.p (.int .i64 (((t2_r0.getD i'.toNat .nil).cell 0).toInt)),.p (.int .i64 2)] []).bind fun r1 =>
  fork (some ([],[.log false (b100000_b++([.agg [.agg [.int .i64 (((r1.1.headD .undef).pv.cell 0).toInt),.int .i64 (((r1.1.headD .undef).pv.cell 1).toInt),.int .i64 (((r1.1.headD .undef).pv.cell 2).toInt),.list false [.int .i64] (((r1.1.headD .undef).pv.cell 3).toList),.list false [.int .i64] (((r1.1.headD .undef).pv.cell 4).toList),.list false [.int .i64] (((r1.1.headD .undef).pv.cell 5).toList)]]]:List PV))])) <|
  L tab C 103 [.log true []] [.lp [1,0]] (S103_10 t1_r0 t2_r0 (IntKind.i64.wrap (i'+(1:Int))) (b100000_b++([.agg [.agg [.int .i64 (((r1.1.headD .undef).pv.cell 0).toInt),.int .i64 (((r1.1.headD .undef).pv.cell 1).toInt),.int .i64 (((r1.1.headD .undef).pv.cell 2).toInt),.list false [.int .i64] (((r1.1.headD .undef).pv.cell 3).toList),.list false [.int .i64] (((r1.1.headD .undef).pv.cell 4).toList),.list false [.int .i64] (((r1.1.headD .undef).pv.cell 5).toList)]]]:List PV))) else none else none else none else none
 else
  some ([],[.log true b100000_b]):=by kernel_rfl
end Go.Skm.Prg
