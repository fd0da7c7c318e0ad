/-
  What the machine does in each function of this program, and in each round of each loop; no condition.
-/
import Derived.Test.YtipkmkmngcjdbaaGreatDoorEqs
import Derived.Test.YtipkmkmngcjdbaaGreatDoorSkmFp
set_option maxRecDepth 100000
namespace Go.Skm.Fig
open Go Go.Skm
def S11_1010 (t5':List PV) (t6':Int) (t7':Int):St:=⟨.undef::.undef::.undef::.undef::.undef::(.p (.list true kSh t5'))::(.p (.int .i64 t6'))::(.p (.int .i64 t7'))::List.replicate 22 .undef,[]⟩
theorem e11 (C:CallF) (f:List PV):acallI tab C 11 [.p (.list true kSh f)] [] =
 L tab C 11 [] [.lp [1,0,1,0]] (S11_1010 f ((f.length:Nat):Int) 0):=by kernel_rfl
theorem e11_1010 (C:CallF) (t5':List PV) (t6':Int) (t7':Int):R tab C 11 [] [.lp [1,0,1,0]] (S11_1010 t5' t6' t7') =
 bif (ltI t7' t6') then
  bif ((leI (0:Int) t7')&&(ltI t7' ((t5'.length:Nat):Int))) then bif (gtI (((t5'.getD t7'.toNat .nil).cell 2).toInt) (20:Int)) then
   bif (leI (((t5'.getD t7'.toNat .nil).cell 2).toInt) (500:Int)) then
    some ([.p (.bool false)],[])
   else
    bif (gtI (((t5'.getD t7'.toNat .nil).cell 3).toInt) (6:Int)) then
     bif (leI (((t5'.getD t7'.toNat .nil).cell 3).toInt) (50:Int)) then
      some ([.p (.bool false)],[])
     else
      L tab C 11 [] [.lp [1,0,1,0]] (S11_1010 t5' t6' (IntKind.i64.wrap (t7'+(1:Int))))
    else
     L tab C 11 [] [.lp [1,0,1,0]] (S11_1010 t5' t6' (IntKind.i64.wrap (t7'+(1:Int))))
  else
   bif (gtI (((t5'.getD t7'.toNat .nil).cell 3).toInt) (6:Int)) then
    bif (leI (((t5'.getD t7'.toNat .nil).cell 3).toInt) (50:Int)) then
     some ([.p (.bool false)],[])
    else
     L tab C 11 [] [.lp [1,0,1,0]] (S11_1010 t5' t6' (IntKind.i64.wrap (t7'+(1:Int))))
   else
    L tab C 11 [] [.lp [1,0,1,0]] (S11_1010 t5' t6' (IntKind.i64.wrap (t7'+(1:Int)))) else none
 else
  some ([.p (.bool true)],[]):=by kernel_rfl
def S15_11010 (f':List PV) (all_o:Nat) (all_l:Nat) (i':Int) (all_b:List PV):St:=⟨(.p (.list true kSh f'))::.undef::.undef::.undef::(.slice 4 3 all_o all_l)::(.p (.int .i64 i'))::List.replicate 24 .undef,[(4,.arr true kV3 all_b)]⟩
theorem e15 (C:CallF) (f:List PV):acallI tab C 15 [.p (.list true kSh f)] [] =
 L tab C 15 [] [.lp [1,1,0,1,0]] (S15_11010 f 0 0 0 []):=by kernel_rfl
theorem e15_11010 (C:CallF) (f':List PV) (all_o:Nat) (all_l:Nat) (i':Int) (all_b:List PV):R tab C 15 [] [.lp [1,1,0,1,0]] (S15_11010 f' all_o all_l i' all_b) =
 bif (ltI i' ((f'.length:Nat):Int)) then
  bif ((leI (0:Int) i')&&(ltI i' ((f'.length:Nat):Int))) then(C 36 [.p (.agg [.int .i64 (((f'.getD i'.toNat .nil).cell 0).toInt),.list true kV3 (((f'.getD i'.toNat .nil).cell 1).toList),.int .i64 (((f'.getD i'.toNat .nil).cell 2).toInt),.int .i64 (((f'.getD i'.toNat .nil).cell 3).toInt),.int .i64 (((f'.getD i'.toNat .nil).cell 4).toInt),.int .i64 (((f'.getD i'.toNat .nil).cell 5).toInt)])] []).bind fun r1 =>
  bif (leN (all_l+((r1.1.headD .undef).pv.toList).length) 2147483648) then L tab C 15 [] [.lp [1,1,0,1,0]] (S15_11010 f' 0 (all_l+((r1.1.headD .undef).pv.toList).length) (IntKind.i64.wrap (i'+(1:Int))) (((all_b.drop all_o).take all_l)++((r1.1.headD .undef).pv.toList))) else none else none
 else
  (C 37 [.p (.list true kV3 ((all_b.drop all_o).take all_l))] []).bind fun r2 =>
  bif (!(r2.1.headD .undef).pv.toBool) then
   some ([.fresh true kV3 [],.p (.int .i64 3)],[])
  else
   (C 38 [.p (.list true kV3 ((all_b.drop all_o).take all_l))] []).bind fun r3 =>
   bif (gtI ((((r3.1.headD .undef).pv.toList).length:Nat):Int) (4096:Int)) then
    some ([.fresh true kV3 [],.p (.int .i64 7)],[])
   else
    bif (leN (((r3.1.headD .undef).pv.toList).length) 2147483648) then some ([.fresh true kV3 ((((r3.1.headD .undef).pv.toList).drop 0).take (((r3.1.headD .undef).pv.toList).length)),.p (.int .i64 0)],[]) else none:=by kernel_rfl
theorem e26 (C:CallF) (a_0:Int) (a_1:Int) (a_2:Int) (b_0:Int) (b_1:Int) (b_2:Int):acallI tab C 26 [.p (.agg [.int .i64 a_0,.int .i64 a_1,.int .i64 a_2]),.p (.agg [.int .i64 b_0,.int .i64 b_1,.int .i64 b_2])] [] =
 some ([.p (.agg [.int .i64 (IntKind.i64.wrap (a_0+b_0)),.int .i64 (IntKind.i64.wrap (a_1+b_1)),.int .i64 (IntKind.i64.wrap (a_2+b_2))])],[]):=by kernel_rfl
theorem e27 (C:CallF) (a_0:Int) (a_1:Int) (a_2:Int) (b_0:Int) (b_1:Int) (b_2:Int):acallI tab C 27 [.p (.agg [.int .i64 a_0,.int .i64 a_1,.int .i64 a_2]),.p (.agg [.int .i64 b_0,.int .i64 b_1,.int .i64 b_2])] [] =
 (C 51 [.p (.agg [.int .i64 b_0,.int .i64 b_1,.int .i64 b_2])] []).bind fun r1 =>
 (C 26 [.p (.agg [.int .i64 a_0,.int .i64 a_1,.int .i64 a_2]),.p (.agg [.int .i64 (((r1.1.headD .undef).pv.cell 0).toInt),.int .i64 (((r1.1.headD .undef).pv.cell 1).toInt),.int .i64 (((r1.1.headD .undef).pv.cell 2).toInt)])] []).bind fun r2 =>
 some ([.p (.agg [.int .i64 (((r2.1.headD .undef).pv.cell 0).toInt),.int .i64 (((r2.1.headD .undef).pv.cell 1).toInt),.int .i64 (((r2.1.headD .undef).pv.cell 2).toInt)])],[]):=by kernel_rfl
def S36_1110101110010 (out_o:Nat) (out_l:Nat) (c':List PV) (i':Int) (s_b0:Int) (s_b1:List PV) (s_b2:Int) (s_b3:Int) (s_b4:Int) (s_b5:Int) (out_b:List PV):St:=⟨.undef::(.ptr 1 0 0)::.undef::(.slice 3 3 out_o out_l)::(.p (.list true kV3 c'))::(.p (.int .i64 i'))::List.replicate 155 .undef,[(1,.box [.p (.int .i64 s_b0),.p (.list true kV3 s_b1),.p (.int .i64 s_b2),.p (.int .i64 s_b3),.p (.int .i64 s_b4),.p (.int .i64 s_b5)]),(3,.arr true kV3 out_b)]⟩
def S36_11111010 (out_o:Nat) (out_l:Nat) (c':List PV) (r_':Int) (i':Int) (s_b0:Int) (s_b1:List PV) (s_b2:Int) (s_b3:Int) (s_b4:Int) (s_b5:Int) (out_b:List PV):St:=⟨.undef::(.ptr 1 0 0)::.undef::(.slice 3 3 out_o out_l)::(.p (.list true kV3 c'))::.undef::(.p (.int .i64 r_'))::(.p (.int .i64 i'))::List.replicate 153 .undef,[(1,.box [.p (.int .i64 s_b0),.p (.list true kV3 s_b1),.p (.int .i64 s_b2),.p (.int .i64 s_b3),.p (.int .i64 s_b4),.p (.int .i64 s_b5)]),(3,.arr true kV3 out_b)]⟩
def S36_11111010_10010 (out_o:Nat) (out_l:Nat) (c':List PV) (r_':Int) (i':Int) (j':Int) (s_b0:Int) (s_b1:List PV) (s_b2:Int) (s_b3:Int) (s_b4:Int) (s_b5:Int) (out_b:List PV):St:=⟨.undef::(.ptr 1 0 0)::.undef::(.slice 3 3 out_o out_l)::(.p (.list true kV3 c'))::.undef::(.p (.int .i64 r_'))::(.p (.int .i64 i'))::(.p (.int .i64 j'))::List.replicate 152 .undef,[(1,.box [.p (.int .i64 s_b0),.p (.list true kV3 s_b1),.p (.int .i64 s_b2),.p (.int .i64 s_b3),.p (.int .i64 s_b4),.p (.int .i64 s_b5)]),(3,.arr true kV3 out_b)]⟩
def S36_11111010_10010_100110 (out_o:Nat) (out_l:Nat) (c':List PV) (r_':Int) (i':Int) (j':Int) (k':Int) (s_b0:Int) (s_b1:List PV) (s_b2:Int) (s_b3:Int) (s_b4:Int) (s_b5:Int) (out_b:List PV):St:=⟨.undef::(.ptr 1 0 0)::.undef::(.slice 3 3 out_o out_l)::(.p (.list true kV3 c'))::.undef::(.p (.int .i64 r_'))::(.p (.int .i64 i'))::(.p (.int .i64 j'))::.undef::.undef::.undef::(.p (.int .i64 k'))::List.replicate 148 .undef,[(1,.box [.p (.int .i64 s_b0),.p (.list true kV3 s_b1),.p (.int .i64 s_b2),.p (.int .i64 s_b3),.p (.int .i64 s_b4),.p (.int .i64 s_b5)]),(3,.arr true kV3 out_b)]⟩
theorem e36 (C:CallF) (s_0:Int) (s_1:List PV) (s_2:Int) (s_3:Int) (s_4:Int) (s_5:Int):acallI tab C 36 [.p (.agg [.int .i64 s_0,.list true kV3 s_1,.int .i64 s_2,.int .i64 s_3,.int .i64 s_4,.int .i64 s_5])] [] =
 bif (s_0==(1:Int)) then
  some ([.p (.list true kV3 s_1)],[])
 else
  bif (s_0==(2:Int)) then
   bif (s_0==(2:Int)) then
    L tab C 36 [] [.lp [1,1,1,0,1,0,1,1,1,0,0,1,0]] (S36_1110101110010 0 0 s_1 0 s_0 s_1 s_2 s_3 s_4 s_5 [])
   else
    L tab C 36 [] [.lp [1,1,1,1,1,0,1,0]] (S36_11111010 0 0 s_1 s_3 (IntKind.i64.wrap (0-s_3)) s_0 s_1 s_2 s_3 s_4 s_5 [])
  else
   bif (s_0==(3:Int)) then
    L tab C 36 [] [.lp [1,1,1,0,1,0,1,1,1,0,0,1,0]] (S36_1110101110010 0 0 s_1 0 s_0 s_1 s_2 s_3 s_4 s_5 [])
   else
    L tab C 36 [] [.lp [1,1,1,1,1,0,1,0]] (S36_11111010 0 0 s_1 s_3 (IntKind.i64.wrap (0-s_3)) s_0 s_1 s_2 s_3 s_4 s_5 []):=by kernel_rfl
theorem e36_1110101110010 (C:CallF) (out_o:Nat) (out_l:Nat) (c':List PV) (i':Int) (s_b0:Int) (s_b1:List PV) (s_b2:Int) (s_b3:Int) (s_b4:Int) (s_b5:Int) (out_b:List PV):R tab C 36 [] [.lp [1,1,1,0,1,0,1,1,1,0,0,1,0]] (S36_1110101110010 out_o out_l c' i' s_b0 s_b1 s_b2 s_b3 s_b4 s_b5 out_b) =
 bif (ltI (IntKind.i64.wrap (i'+(1:Int))) ((c'.length:Nat):Int)) then
  bif ((leI (0:Int) i')&&(ltI i' ((c'.length:Nat):Int))) then bif ((leI (0:Int) (IntKind.i64.wrap (i'+(1:Int))))&&(ltI (IntKind.i64.wrap (i'+(1:Int))) ((c'.length:Nat):Int))) then(C 68 [.p (.agg [.int .i64 (((c'.getD i'.toNat .nil).cell 0).toInt),.int .i64 (((c'.getD i'.toNat .nil).cell 1).toInt),.int .i64 (((c'.getD i'.toNat .nil).cell 2).toInt)]),.p (.agg [.int .i64 (((c'.getD ((IntKind.i64.wrap (i'+(1:Int))).toNat) .nil).cell 0).toInt),.int .i64 (((c'.getD ((IntKind.i64.wrap (i'+(1:Int))).toNat) .nil).cell 1).toInt),.int .i64 (((c'.getD ((IntKind.i64.wrap (i'+(1:Int))).toNat) .nil).cell 2).toInt)]),.p (.int .i64 s_b2)] []).bind fun r1 =>
  bif (leN (out_l+(r1.1.headD .undef).freshList.length) 2147483648) then L tab C 36 [] [.lp [1,1,1,0,1,0,1,1,1,0,0,1,0]] (S36_1110101110010 0 (out_l+(r1.1.headD .undef).freshList.length) c' (IntKind.i64.wrap (i'+(1:Int))) s_b0 s_b1 s_b2 s_b3 s_b4 s_b5 (((out_b.drop out_o).take out_l)++((((r1.1.headD .undef).freshList).drop 0).take ((r1.1.headD .undef).freshList.length)))) else none else none else none
 else
  bif (s_b0==(3:Int)) then
   bif ((leI (0:Int) (IntKind.i64.wrap (((c'.length:Nat):Int)-(1:Int))))&&(ltI (IntKind.i64.wrap (((c'.length:Nat):Int)-(1:Int))) ((c'.length:Nat):Int))) then bif (ltI (0:Int) ((c'.length:Nat):Int)) then(C 68 [.p (.agg [.int .i64 (((c'.getD ((IntKind.i64.wrap (((c'.length:Nat):Int)-(1:Int))).toNat) .nil).cell 0).toInt),.int .i64 (((c'.getD ((IntKind.i64.wrap (((c'.length:Nat):Int)-(1:Int))).toNat) .nil).cell 1).toInt),.int .i64 (((c'.getD ((IntKind.i64.wrap (((c'.length:Nat):Int)-(1:Int))).toNat) .nil).cell 2).toInt)]),.p (.agg [.int .i64 (((c'.getD 0 .nil).cell 0).toInt),.int .i64 (((c'.getD 0 .nil).cell 1).toInt),.int .i64 (((c'.getD 0 .nil).cell 2).toInt)]),.p (.int .i64 s_b2)] []).bind fun r2 =>
   bif (leN (out_l+(r2.1.headD .undef).freshList.length) 2147483648) then some ([.p (.list true kV3 (((((out_b.drop out_o).take out_l)++((((r2.1.headD .undef).freshList).drop 0).take ((r2.1.headD .undef).freshList.length))).drop 0).take (out_l+(r2.1.headD .undef).freshList.length)))],[]) else none else none else none
  else
   some ([.p (.list true kV3 ((out_b.drop out_o).take out_l))],[]):=by kernel_rfl
theorem e36_11111010 (C:CallF) (out_o:Nat) (out_l:Nat) (c':List PV) (r_':Int) (i':Int) (s_b0:Int) (s_b1:List PV) (s_b2:Int) (s_b3:Int) (s_b4:Int) (s_b5:Int) (out_b:List PV):R tab C 36 [] [.lp [1,1,1,1,1,0,1,0]] (S36_11111010 out_o out_l c' r_' i' s_b0 s_b1 s_b2 s_b3 s_b4 s_b5 out_b) =
 bif (leI i' r_') then
  L tab C 36 [] [.lp [1,1,1,1,1,0,1,0],.lp [1,0,0,1,0]] (S36_11111010_10010 out_o out_l c' r_' i' (IntKind.i64.wrap (0-r_')) s_b0 s_b1 s_b2 s_b3 s_b4 s_b5 out_b)
 else
  some ([.p (.list true kV3 ((out_b.drop out_o).take out_l))],[]):=by kernel_rfl
theorem e36_11111010_10010 (C:CallF) (out_o:Nat) (out_l:Nat) (c':List PV) (r_':Int) (i':Int) (j':Int) (s_b0:Int) (s_b1:List PV) (s_b2:Int) (s_b3:Int) (s_b4:Int) (s_b5:Int) (out_b:List PV):R tab C 36 [] [.lp [1,1,1,1,1,0,1,0],.lp [1,0,0,1,0]] (S36_11111010_10010 out_o out_l c' r_' i' j' s_b0 s_b1 s_b2 s_b3 s_b4 s_b5 out_b) =
 bif (leI j' r_') then
  bif (s_b0==(4:Int)) then
   (C 69 [.p (.int .i64 (IntKind.i64.wrap ((IntKind.i64.wrap (i'*i'))+(IntKind.i64.wrap (j'*j'))))),.p (.int .i64 r_')] []).bind fun r1 =>
   bif (r1.1.headD .undef).pv.toBool then
    bif ((leI (0:Int) s_b5)&&(ltI s_b5 (3:Int))) then bif (ltI (0:Int) ((c'.length:Nat):Int)) then(C 26 [.p (.agg [.int .i64 (((c'.getD 0 .nil).cell 0).toInt),.int .i64 (((c'.getD 0 .nil).cell 1).toInt),.int .i64 (((c'.getD 0 .nil).cell 2).toInt)]),.p (.agg [.int .i64 (((([.agg [.int .i64 (IntKind.i64.wrap (i'*s_b4)),.int .i64 (IntKind.i64.wrap (j'*s_b4)),.int .i64 0],.agg [.int .i64 (IntKind.i64.wrap (i'*s_b4)),.int .i64 0,.int .i64 (IntKind.i64.wrap (j'*s_b4))],.agg [.int .i64 0,.int .i64 (IntKind.i64.wrap (i'*s_b4)),.int .i64 (IntKind.i64.wrap (j'*s_b4))]]:List PV).getD (0+s_b5.toNat) .nil).cell 0).toInt),.int .i64 (((([.agg [.int .i64 (IntKind.i64.wrap (i'*s_b4)),.int .i64 (IntKind.i64.wrap (j'*s_b4)),.int .i64 0],.agg [.int .i64 (IntKind.i64.wrap (i'*s_b4)),.int .i64 0,.int .i64 (IntKind.i64.wrap (j'*s_b4))],.agg [.int .i64 0,.int .i64 (IntKind.i64.wrap (i'*s_b4)),.int .i64 (IntKind.i64.wrap (j'*s_b4))]]:List PV).getD (0+s_b5.toNat) .nil).cell 1).toInt),.int .i64 (((([.agg [.int .i64 (IntKind.i64.wrap (i'*s_b4)),.int .i64 (IntKind.i64.wrap (j'*s_b4)),.int .i64 0],.agg [.int .i64 (IntKind.i64.wrap (i'*s_b4)),.int .i64 0,.int .i64 (IntKind.i64.wrap (j'*s_b4))],.agg [.int .i64 0,.int .i64 (IntKind.i64.wrap (i'*s_b4)),.int .i64 (IntKind.i64.wrap (j'*s_b4))]]:List PV).getD (0+s_b5.toNat) .nil).cell 2).toInt)])] []).bind fun r2 =>
    bif (leN (out_l+1) 2147483648) then L tab C 36 [] [.lp [1,1,1,1,1,0,1,0],.lp [1,0,0,1,0]] (S36_11111010_10010 0 (out_l+1) c' r_' i' (IntKind.i64.wrap (j'+(1:Int))) s_b0 s_b1 s_b2 s_b3 s_b4 s_b5 (((out_b.drop out_o).take out_l)++([.agg [.int .i64 (((r2.1.headD .undef).pv.cell 0).toInt),.int .i64 (((r2.1.headD .undef).pv.cell 1).toInt),.int .i64 (((r2.1.headD .undef).pv.cell 2).toInt)]]:List PV))) else none else none else none
   else
    L tab C 36 [] [.lp [1,1,1,1,1,0,1,0],.lp [1,0,0,1,0]] (S36_11111010_10010 out_o out_l c' r_' i' (IntKind.i64.wrap (j'+(1:Int))) s_b0 s_b1 s_b2 s_b3 s_b4 s_b5 out_b)
  else
   L tab C 36 [] [.lp [1,1,1,1,1,0,1,0],.lp [1,0,0,1,0],.lp [1,0,0,1,1,0]] (S36_11111010_10010_100110 out_o out_l c' r_' i' j' (IntKind.i64.wrap (0-r_')) s_b0 s_b1 s_b2 s_b3 s_b4 s_b5 out_b)
 else
  L tab C 36 [] [.lp [1,1,1,1,1,0,1,0]] (S36_11111010 out_o out_l c' r_' (IntKind.i64.wrap (i'+(1:Int))) s_b0 s_b1 s_b2 s_b3 s_b4 s_b5 out_b):=by kernel_rfl
theorem e36_11111010_10010_100110 (C:CallF) (out_o:Nat) (out_l:Nat) (c':List PV) (r_':Int) (i':Int) (j':Int) (k':Int) (s_b0:Int) (s_b1:List PV) (s_b2:Int) (s_b3:Int) (s_b4:Int) (s_b5:Int) (out_b:List PV):R tab C 36 [] [.lp [1,1,1,1,1,0,1,0],.lp [1,0,0,1,0],.lp [1,0,0,1,1,0]] (S36_11111010_10010_100110 out_o out_l c' r_' i' j' k' s_b0 s_b1 s_b2 s_b3 s_b4 s_b5 out_b) =
 bif (leI k' r_') then
  (C 69 [.p (.int .i64 (IntKind.i64.wrap ((IntKind.i64.wrap ((IntKind.i64.wrap (i'*i'))+(IntKind.i64.wrap (j'*j'))))+(IntKind.i64.wrap (k'*k'))))),.p (.int .i64 r_')] []).bind fun r1 =>
  bif (r1.1.headD .undef).pv.toBool then
   bif (ltI (0:Int) ((c'.length:Nat):Int)) then(C 26 [.p (.agg [.int .i64 (((c'.getD 0 .nil).cell 0).toInt),.int .i64 (((c'.getD 0 .nil).cell 1).toInt),.int .i64 (((c'.getD 0 .nil).cell 2).toInt)]),.p (.agg [.int .i64 (IntKind.i64.wrap (i'*s_b4)),.int .i64 (IntKind.i64.wrap (j'*s_b4)),.int .i64 (IntKind.i64.wrap (k'*s_b4))])] []).bind fun r2 =>
   bif (leN (out_l+1) 2147483648) then L tab C 36 [] [.lp [1,1,1,1,1,0,1,0],.lp [1,0,0,1,0],.lp [1,0,0,1,1,0]] (S36_11111010_10010_100110 0 (out_l+1) c' r_' i' j' (IntKind.i64.wrap (k'+(1:Int))) s_b0 s_b1 s_b2 s_b3 s_b4 s_b5 (((out_b.drop out_o).take out_l)++([.agg [.int .i64 (((r2.1.headD .undef).pv.cell 0).toInt),.int .i64 (((r2.1.headD .undef).pv.cell 1).toInt),.int .i64 (((r2.1.headD .undef).pv.cell 2).toInt)]]:List PV))) else none else none
  else
   L tab C 36 [] [.lp [1,1,1,1,1,0,1,0],.lp [1,0,0,1,0],.lp [1,0,0,1,1,0]] (S36_11111010_10010_100110 out_o out_l c' r_' i' j' (IntKind.i64.wrap (k'+(1:Int))) s_b0 s_b1 s_b2 s_b3 s_b4 s_b5 out_b)
 else
  L tab C 36 [] [.lp [1,1,1,1,1,0,1,0],.lp [1,0,0,1,0]] (S36_11111010_10010 out_o out_l c' r_' i' (IntKind.i64.wrap (j'+(1:Int))) s_b0 s_b1 s_b2 s_b3 s_b4 s_b5 out_b):=by kernel_rfl
def S38_111100 (a':List PV) (b':List PV) (out_o:Nat) (out_l:Nat) (out_b:List PV):St:=⟨.undef::.undef::.undef::(.p (.list true kV3 a'))::(.p (.list true kV3 b'))::(.slice 5 3 out_o out_l)::List.replicate 73 .undef,[(5,.arr true kV3 out_b)]⟩
theorem e38 (C:CallF) (l:List PV):acallI tab C 38 [.p (.list true kV3 l)] [] =
 bif (ltI ((l.length:Nat):Int) (2:Int)) then
  some ([.p (.list true kV3 l)],[])
 else
  bif ((leI (0:Int) (IntKind.i64.wrap (((l.length:Nat):Int).tdiv (2:Int))))&&((leI (IntKind.i64.wrap (((l.length:Nat):Int).tdiv (2:Int))) ((l.length:Nat):Int))&&(leI ((l.length:Nat):Int) ((l.length:Nat):Int)))) then(C 38 [.p (.list true kV3 ((l.drop 0).take (((IntKind.i64.wrap (((l.length:Nat):Int).tdiv (2:Int)))-(0:Int)).toNat)))] []).bind fun r1 =>
  bif ((leI (0:Int) (IntKind.i64.wrap (((l.length:Nat):Int).tdiv (2:Int))))&&((leI (IntKind.i64.wrap (((l.length:Nat):Int).tdiv (2:Int))) ((l.length:Nat):Int))&&((leI ((l.length:Nat):Int) ((l.length:Nat):Int))&&(leI ((l.length:Nat):Int) ((l.length:Nat):Int))))) then(C 38 [.p (.list true kV3 ((l.drop ((IntKind.i64.wrap (((l.length:Nat):Int).tdiv (2:Int))).toNat)).take ((((l.length:Nat):Int)-(IntKind.i64.wrap (((l.length:Nat):Int).tdiv (2:Int)))).toNat)))] []).bind fun r2 =>
  L tab C 38 [] [.lp [1,1,1,1,0,0]] (S38_111100 ((r1.1.headD .undef).pv.toList) ((r2.1.headD .undef).pv.toList) 0 0 []) else none else none:=by kernel_rfl
theorem e38_111100 (C:CallF) (a':List PV) (b':List PV) (out_o:Nat) (out_l:Nat) (out_b:List PV):R tab C 38 [] [.lp [1,1,1,1,0,0]] (S38_111100 a' b' out_o out_l out_b) =
 bif (gtI ((a'.length:Nat):Int) (0:Int)) then
  bif (((b'.length:Nat):Int)==(0:Int)) then
   bif (gtI ((b'.length:Nat):Int) (0:Int)) then
    bif (ltI (0:Int) ((a'.length:Nat):Int)) then bif (ltI (0:Int) ((b'.length:Nat):Int)) then bif ((((a'.getD 0 .nil).cell 0).toInt==((b'.getD 0 .nil).cell 0).toInt)&&((((a'.getD 0 .nil).cell 1).toInt==((b'.getD 0 .nil).cell 1).toInt)&&((((a'.getD 0 .nil).cell 2).toInt==((b'.getD 0 .nil).cell 2).toInt)&&true))) then
     bif ((leI (1:Int) ((b'.length:Nat):Int))&&((leI ((b'.length:Nat):Int) ((b'.length:Nat):Int))&&(leI ((b'.length:Nat):Int) ((b'.length:Nat):Int)))) then bif (ltI (0:Int) ((a'.length:Nat):Int)) then bif (leN (out_l+1) 2147483648) then bif ((leI (1:Int) ((a'.length:Nat):Int))&&((leI ((a'.length:Nat):Int) ((a'.length:Nat):Int))&&(leI ((a'.length:Nat):Int) ((a'.length:Nat):Int)))) then L tab C 38 [] [.lp [1,1,1,1,0,0]] (S38_111100 ((a'.drop 1).take ((((a'.length:Nat):Int)-(1:Int)).toNat)) ((b'.drop 1).take ((((b'.length:Nat):Int)-(1:Int)).toNat)) 0 (out_l+1) (((out_b.drop out_o).take out_l)++([.agg [.int .i64 (((a'.getD 0 .nil).cell 0).toInt),.int .i64 (((a'.getD 0 .nil).cell 1).toInt),.int .i64 (((a'.getD 0 .nil).cell 2).toInt)]]:List PV))) else none else none else none else none
    else
     bif (ltI (0:Int) ((a'.length:Nat):Int)) then bif (leN (out_l+1) 2147483648) then bif ((leI (1:Int) ((a'.length:Nat):Int))&&((leI ((a'.length:Nat):Int) ((a'.length:Nat):Int))&&(leI ((a'.length:Nat):Int) ((a'.length:Nat):Int)))) then L tab C 38 [] [.lp [1,1,1,1,0,0]] (S38_111100 ((a'.drop 1).take ((((a'.length:Nat):Int)-(1:Int)).toNat)) b' 0 (out_l+1) (((out_b.drop out_o).take out_l)++([.agg [.int .i64 (((a'.getD 0 .nil).cell 0).toInt),.int .i64 (((a'.getD 0 .nil).cell 1).toInt),.int .i64 (((a'.getD 0 .nil).cell 2).toInt)]]:List PV))) else none else none else none else none else none
   else
    bif (ltI (0:Int) ((a'.length:Nat):Int)) then bif (leN (out_l+1) 2147483648) then bif ((leI (1:Int) ((a'.length:Nat):Int))&&((leI ((a'.length:Nat):Int) ((a'.length:Nat):Int))&&(leI ((a'.length:Nat):Int) ((a'.length:Nat):Int)))) then L tab C 38 [] [.lp [1,1,1,1,0,0]] (S38_111100 ((a'.drop 1).take ((((a'.length:Nat):Int)-(1:Int)).toNat)) b' 0 (out_l+1) (((out_b.drop out_o).take out_l)++([.agg [.int .i64 (((a'.getD 0 .nil).cell 0).toInt),.int .i64 (((a'.getD 0 .nil).cell 1).toInt),.int .i64 (((a'.getD 0 .nil).cell 2).toInt)]]:List PV))) else none else none else none
  else
   bif (gtI ((a'.length:Nat):Int) (0:Int)) then
    bif (ltI (0:Int) ((a'.length:Nat):Int)) then bif (ltI (0:Int) ((b'.length:Nat):Int)) then(C 71 [.p (.agg [.int .i64 (((a'.getD 0 .nil).cell 0).toInt),.int .i64 (((a'.getD 0 .nil).cell 1).toInt),.int .i64 (((a'.getD 0 .nil).cell 2).toInt)]),.p (.agg [.int .i64 (((b'.getD 0 .nil).cell 0).toInt),.int .i64 (((b'.getD 0 .nil).cell 1).toInt),.int .i64 (((b'.getD 0 .nil).cell 2).toInt)])] []).bind fun r1 =>
    bif (leI ((r1.1.headD .undef).pv.toInt) (0:Int)) then
     bif (gtI ((b'.length:Nat):Int) (0:Int)) then
      bif (ltI (0:Int) ((a'.length:Nat):Int)) then bif (ltI (0:Int) ((b'.length:Nat):Int)) then bif ((((a'.getD 0 .nil).cell 0).toInt==((b'.getD 0 .nil).cell 0).toInt)&&((((a'.getD 0 .nil).cell 1).toInt==((b'.getD 0 .nil).cell 1).toInt)&&((((a'.getD 0 .nil).cell 2).toInt==((b'.getD 0 .nil).cell 2).toInt)&&true))) then
       bif ((leI (1:Int) ((b'.length:Nat):Int))&&((leI ((b'.length:Nat):Int) ((b'.length:Nat):Int))&&(leI ((b'.length:Nat):Int) ((b'.length:Nat):Int)))) then bif (ltI (0:Int) ((a'.length:Nat):Int)) then bif (leN (out_l+1) 2147483648) then bif ((leI (1:Int) ((a'.length:Nat):Int))&&((leI ((a'.length:Nat):Int) ((a'.length:Nat):Int))&&(leI ((a'.length:Nat):Int) ((a'.length:Nat):Int)))) then L tab C 38 [] [.lp [1,1,1,1,0,0]] (S38_111100 ((a'.drop 1).take ((((a'.length:Nat):Int)-(1:Int)).toNat)) ((b'.drop 1).take ((((b'.length:Nat):Int)-(1:Int)).toNat)) 0 (out_l+1) (((out_b.drop out_o).take out_l)++([.agg [.int .i64 (((a'.getD 0 .nil).cell 0).toInt),.int .i64 (((a'.getD 0 .nil).cell 1).toInt),.int .i64 (((a'.getD 0 .nil).cell 2).toInt)]]:List PV))) else none else none else none else none
      else
       bif (ltI (0:Int) ((a'.length:Nat):Int)) then bif (leN (out_l+1) 2147483648) then bif ((leI (1:Int) ((a'.length:Nat):Int))&&((leI ((a'.length:Nat):Int) ((a'.length:Nat):Int))&&(leI ((a'.length:Nat):Int) ((a'.length:Nat):Int)))) then L tab C 38 [] [.lp [1,1,1,1,0,0]] (S38_111100 ((a'.drop 1).take ((((a'.length:Nat):Int)-(1:Int)).toNat)) b' 0 (out_l+1) (((out_b.drop out_o).take out_l)++([.agg [.int .i64 (((a'.getD 0 .nil).cell 0).toInt),.int .i64 (((a'.getD 0 .nil).cell 1).toInt),.int .i64 (((a'.getD 0 .nil).cell 2).toInt)]]:List PV))) else none else none else none else none else none
     else
      bif (ltI (0:Int) ((a'.length:Nat):Int)) then bif (leN (out_l+1) 2147483648) then bif ((leI (1:Int) ((a'.length:Nat):Int))&&((leI ((a'.length:Nat):Int) ((a'.length:Nat):Int))&&(leI ((a'.length:Nat):Int) ((a'.length:Nat):Int)))) then L tab C 38 [] [.lp [1,1,1,1,0,0]] (S38_111100 ((a'.drop 1).take ((((a'.length:Nat):Int)-(1:Int)).toNat)) b' 0 (out_l+1) (((out_b.drop out_o).take out_l)++([.agg [.int .i64 (((a'.getD 0 .nil).cell 0).toInt),.int .i64 (((a'.getD 0 .nil).cell 1).toInt),.int .i64 (((a'.getD 0 .nil).cell 2).toInt)]]:List PV))) else none else none else none
    else
     bif (ltI (0:Int) ((b'.length:Nat):Int)) then bif (leN (out_l+1) 2147483648) then bif ((leI (1:Int) ((b'.length:Nat):Int))&&((leI ((b'.length:Nat):Int) ((b'.length:Nat):Int))&&(leI ((b'.length:Nat):Int) ((b'.length:Nat):Int)))) then L tab C 38 [] [.lp [1,1,1,1,0,0]] (S38_111100 a' ((b'.drop 1).take ((((b'.length:Nat):Int)-(1:Int)).toNat)) 0 (out_l+1) (((out_b.drop out_o).take out_l)++([.agg [.int .i64 (((b'.getD 0 .nil).cell 0).toInt),.int .i64 (((b'.getD 0 .nil).cell 1).toInt),.int .i64 (((b'.getD 0 .nil).cell 2).toInt)]]:List PV))) else none else none else none else none else none
   else
    bif (ltI (0:Int) ((b'.length:Nat):Int)) then bif (leN (out_l+1) 2147483648) then bif ((leI (1:Int) ((b'.length:Nat):Int))&&((leI ((b'.length:Nat):Int) ((b'.length:Nat):Int))&&(leI ((b'.length:Nat):Int) ((b'.length:Nat):Int)))) then L tab C 38 [] [.lp [1,1,1,1,0,0]] (S38_111100 a' ((b'.drop 1).take ((((b'.length:Nat):Int)-(1:Int)).toNat)) 0 (out_l+1) (((out_b.drop out_o).take out_l)++([.agg [.int .i64 (((b'.getD 0 .nil).cell 0).toInt),.int .i64 (((b'.getD 0 .nil).cell 1).toInt),.int .i64 (((b'.getD 0 .nil).cell 2).toInt)]]:List PV))) else none else none else none
 else
  bif (gtI ((b'.length:Nat):Int) (0:Int)) then
   bif (((b'.length:Nat):Int)==(0:Int)) then
    bif (gtI ((b'.length:Nat):Int) (0:Int)) then
     bif (ltI (0:Int) ((a'.length:Nat):Int)) then bif (ltI (0:Int) ((b'.length:Nat):Int)) then bif ((((a'.getD 0 .nil).cell 0).toInt==((b'.getD 0 .nil).cell 0).toInt)&&((((a'.getD 0 .nil).cell 1).toInt==((b'.getD 0 .nil).cell 1).toInt)&&((((a'.getD 0 .nil).cell 2).toInt==((b'.getD 0 .nil).cell 2).toInt)&&true))) then
      bif ((leI (1:Int) ((b'.length:Nat):Int))&&((leI ((b'.length:Nat):Int) ((b'.length:Nat):Int))&&(leI ((b'.length:Nat):Int) ((b'.length:Nat):Int)))) then bif (ltI (0:Int) ((a'.length:Nat):Int)) then bif (leN (out_l+1) 2147483648) then bif ((leI (1:Int) ((a'.length:Nat):Int))&&((leI ((a'.length:Nat):Int) ((a'.length:Nat):Int))&&(leI ((a'.length:Nat):Int) ((a'.length:Nat):Int)))) then L tab C 38 [] [.lp [1,1,1,1,0,0]] (S38_111100 ((a'.drop 1).take ((((a'.length:Nat):Int)-(1:Int)).toNat)) ((b'.drop 1).take ((((b'.length:Nat):Int)-(1:Int)).toNat)) 0 (out_l+1) (((out_b.drop out_o).take out_l)++([.agg [.int .i64 (((a'.getD 0 .nil).cell 0).toInt),.int .i64 (((a'.getD 0 .nil).cell 1).toInt),.int .i64 (((a'.getD 0 .nil).cell 2).toInt)]]:List PV))) else none else none else none else none
     else
      bif (ltI (0:Int) ((a'.length:Nat):Int)) then bif (leN (out_l+1) 2147483648) then bif ((leI (1:Int) ((a'.length:Nat):Int))&&((leI ((a'.length:Nat):Int) ((a'.length:Nat):Int))&&(leI ((a'.length:Nat):Int) ((a'.length:Nat):Int)))) then L tab C 38 [] [.lp [1,1,1,1,0,0]] (S38_111100 ((a'.drop 1).take ((((a'.length:Nat):Int)-(1:Int)).toNat)) b' 0 (out_l+1) (((out_b.drop out_o).take out_l)++([.agg [.int .i64 (((a'.getD 0 .nil).cell 0).toInt),.int .i64 (((a'.getD 0 .nil).cell 1).toInt),.int .i64 (((a'.getD 0 .nil).cell 2).toInt)]]:List PV))) else none else none else none else none else none
    else
     bif (ltI (0:Int) ((a'.length:Nat):Int)) then bif (leN (out_l+1) 2147483648) then bif ((leI (1:Int) ((a'.length:Nat):Int))&&((leI ((a'.length:Nat):Int) ((a'.length:Nat):Int))&&(leI ((a'.length:Nat):Int) ((a'.length:Nat):Int)))) then L tab C 38 [] [.lp [1,1,1,1,0,0]] (S38_111100 ((a'.drop 1).take ((((a'.length:Nat):Int)-(1:Int)).toNat)) b' 0 (out_l+1) (((out_b.drop out_o).take out_l)++([.agg [.int .i64 (((a'.getD 0 .nil).cell 0).toInt),.int .i64 (((a'.getD 0 .nil).cell 1).toInt),.int .i64 (((a'.getD 0 .nil).cell 2).toInt)]]:List PV))) else none else none else none
   else
    bif (gtI ((a'.length:Nat):Int) (0:Int)) then
     bif (ltI (0:Int) ((a'.length:Nat):Int)) then bif (ltI (0:Int) ((b'.length:Nat):Int)) then(C 71 [.p (.agg [.int .i64 (((a'.getD 0 .nil).cell 0).toInt),.int .i64 (((a'.getD 0 .nil).cell 1).toInt),.int .i64 (((a'.getD 0 .nil).cell 2).toInt)]),.p (.agg [.int .i64 (((b'.getD 0 .nil).cell 0).toInt),.int .i64 (((b'.getD 0 .nil).cell 1).toInt),.int .i64 (((b'.getD 0 .nil).cell 2).toInt)])] []).bind fun r2 =>
     bif (leI ((r2.1.headD .undef).pv.toInt) (0:Int)) then
      bif (gtI ((b'.length:Nat):Int) (0:Int)) then
       bif (ltI (0:Int) ((a'.length:Nat):Int)) then bif (ltI (0:Int) ((b'.length:Nat):Int)) then bif ((((a'.getD 0 .nil).cell 0).toInt==((b'.getD 0 .nil).cell 0).toInt)&&((((a'.getD 0 .nil).cell 1).toInt==((b'.getD 0 .nil).cell 1).toInt)&&((((a'.getD 0 .nil).cell 2).toInt==((b'.getD 0 .nil).cell 2).toInt)&&true))) then
        bif ((leI (1:Int) ((b'.length:Nat):Int))&&((leI ((b'.length:Nat):Int) ((b'.length:Nat):Int))&&(leI ((b'.length:Nat):Int) ((b'.length:Nat):Int)))) then bif (ltI (0:Int) ((a'.length:Nat):Int)) then bif (leN (out_l+1) 2147483648) then bif ((leI (1:Int) ((a'.length:Nat):Int))&&((leI ((a'.length:Nat):Int) ((a'.length:Nat):Int))&&(leI ((a'.length:Nat):Int) ((a'.length:Nat):Int)))) then L tab C 38 [] [.lp [1,1,1,1,0,0]] (S38_111100 ((a'.drop 1).take ((((a'.length:Nat):Int)-(1:Int)).toNat)) ((b'.drop 1).take ((((b'.length:Nat):Int)-(1:Int)).toNat)) 0 (out_l+1) (((out_b.drop out_o).take out_l)++([.agg [.int .i64 (((a'.getD 0 .nil).cell 0).toInt),.int .i64 (((a'.getD 0 .nil).cell 1).toInt),.int .i64 (((a'.getD 0 .nil).cell 2).toInt)]]:List PV))) else none else none else none else none
       else
        bif (ltI (0:Int) ((a'.length:Nat):Int)) then bif (leN (out_l+1) 2147483648) then bif ((leI (1:Int) ((a'.length:Nat):Int))&&((leI ((a'.length:Nat):Int) ((a'.length:Nat):Int))&&(leI ((a'.length:Nat):Int) ((a'.length:Nat):Int)))) then L tab C 38 [] [.lp [1,1,1,1,0,0]] (S38_111100 ((a'.drop 1).take ((((a'.length:Nat):Int)-(1:Int)).toNat)) b' 0 (out_l+1) (((out_b.drop out_o).take out_l)++([.agg [.int .i64 (((a'.getD 0 .nil).cell 0).toInt),.int .i64 (((a'.getD 0 .nil).cell 1).toInt),.int .i64 (((a'.getD 0 .nil).cell 2).toInt)]]:List PV))) else none else none else none else none else none
      else
       bif (ltI (0:Int) ((a'.length:Nat):Int)) then bif (leN (out_l+1) 2147483648) then bif ((leI (1:Int) ((a'.length:Nat):Int))&&((leI ((a'.length:Nat):Int) ((a'.length:Nat):Int))&&(leI ((a'.length:Nat):Int) ((a'.length:Nat):Int)))) then L tab C 38 [] [.lp [1,1,1,1,0,0]] (S38_111100 ((a'.drop 1).take ((((a'.length:Nat):Int)-(1:Int)).toNat)) b' 0 (out_l+1) (((out_b.drop out_o).take out_l)++([.agg [.int .i64 (((a'.getD 0 .nil).cell 0).toInt),.int .i64 (((a'.getD 0 .nil).cell 1).toInt),.int .i64 (((a'.getD 0 .nil).cell 2).toInt)]]:List PV))) else none else none else none
     else
      bif (ltI (0:Int) ((b'.length:Nat):Int)) then bif (leN (out_l+1) 2147483648) then bif ((leI (1:Int) ((b'.length:Nat):Int))&&((leI ((b'.length:Nat):Int) ((b'.length:Nat):Int))&&(leI ((b'.length:Nat):Int) ((b'.length:Nat):Int)))) then L tab C 38 [] [.lp [1,1,1,1,0,0]] (S38_111100 a' ((b'.drop 1).take ((((b'.length:Nat):Int)-(1:Int)).toNat)) 0 (out_l+1) (((out_b.drop out_o).take out_l)++([.agg [.int .i64 (((b'.getD 0 .nil).cell 0).toInt),.int .i64 (((b'.getD 0 .nil).cell 1).toInt),.int .i64 (((b'.getD 0 .nil).cell 2).toInt)]]:List PV))) else none else none else none else none else none
    else
     bif (ltI (0:Int) ((b'.length:Nat):Int)) then bif (leN (out_l+1) 2147483648) then bif ((leI (1:Int) ((b'.length:Nat):Int))&&((leI ((b'.length:Nat):Int) ((b'.length:Nat):Int))&&(leI ((b'.length:Nat):Int) ((b'.length:Nat):Int)))) then L tab C 38 [] [.lp [1,1,1,1,0,0]] (S38_111100 a' ((b'.drop 1).take ((((b'.length:Nat):Int)-(1:Int)).toNat)) 0 (out_l+1) (((out_b.drop out_o).take out_l)++([.agg [.int .i64 (((b'.getD 0 .nil).cell 0).toInt),.int .i64 (((b'.getD 0 .nil).cell 1).toInt),.int .i64 (((b'.getD 0 .nil).cell 2).toInt)]]:List PV))) else none else none else none
  else
   some ([.p (.list true kV3 ((out_b.drop out_o).take out_l))],[]):=by kernel_rfl
end Go.Skm.Fig

