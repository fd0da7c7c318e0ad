/-
  What the machine does in each function of this program, and in each round of each loop; no condition.
-/
import Derived.Test.YtipkmkmngcjdbaaGreatDoorEqt
import Derived.Test.YtipkmkmngcjdbaaGreatDoorEqsp
set_option maxRecDepth 100000
namespace Go.Skm.Fig
open Go Go.Skm
def S68_11010 (many':Int) (out_o:Nat) (out_l:Nat) (k':Int) (a_b0:Int) (a_b1:Int) (a_b2:Int) (b_b0:Int) (b_b1:Int) (b_b2:Int) (out_b:List PV):St:=⟨.undef::.undef::(.p (.int .i64 many'))::(.ptr 3 0 0)::(.ptr 4 0 0)::.undef::.undef::(.slice 7 3 out_o out_l)::(.p (.int .i64 k'))::List.replicate 14 .undef,[(3,.box [.p (.int .i64 a_b0),.p (.int .i64 a_b1),.p (.int .i64 a_b2)]),(4,.box [.p (.int .i64 b_b0),.p (.int .i64 b_b1),.p (.int .i64 b_b2)]),(7,.arr true kV3 out_b)]⟩
theorem e68 (C:CallF) (a_0:Int) (a_1:Int) (a_2:Int) (b_0:Int) (b_1:Int) (b_2:Int) (many:Int):acallI tab C 68 [.p (.agg [.int .i64 a_0,.int .i64 a_1,.int .i64 a_2]),.p (.agg [.int .i64 b_0,.int .i64 b_1,.int .i64 b_2]),.p (.int .i64 many)] [] =
 L tab C 68 [] [.lp [1,1,0,1,0]] (S68_11010 many 0 0 0 a_0 a_1 a_2 b_0 b_1 b_2 []):=by kernel_rfl
theorem e68_11010 (C:CallF) (many':Int) (out_o:Nat) (out_l:Nat) (k':Int) (a_b0:Int) (a_b1:Int) (a_b2:Int) (b_b0:Int) (b_b1:Int) (b_b2:Int) (out_b:List PV):R tab C 68 [] [.lp [1,1,0,1,0]] (S68_11010 many' out_o out_l k' a_b0 a_b1 a_b2 b_b0 b_b1 b_b2 out_b) =
 bif (leI k' many') then
  (C 100 [.p (.agg [.int .i64 a_b0,.int .i64 a_b1,.int .i64 a_b2]),.p (.agg [.int .i64 b_b0,.int .i64 b_b1,.int .i64 b_b2]),.p (.int .i64 k'),.p (.int .i64 many')] []).bind fun r1 =>
  bif (leN (out_l+1) 2147483648) then L tab C 68 [] [.lp [1,1,0,1,0]] (S68_11010 many' 0 (out_l+1) (IntKind.i64.wrap (k'+(1:Int))) a_b0 a_b1 a_b2 b_b0 b_b1 b_b2 (((out_b.drop out_o).take out_l)++([.agg [.int .i64 (((r1.1.headD .undef).pv.cell 0).toInt),.int .i64 (((r1.1.headD .undef).pv.cell 1).toInt),.int .i64 (((r1.1.headD .undef).pv.cell 2).toInt)]]:List PV))) else none
 else
  some ([.fresh true kV3 ((out_b.drop out_o).take out_l)],[]):=by kernel_rfl
theorem e69 (C:CallF) (n_:Int) (r_:Int):acallI tab C 69 [.p (.int .i64 n_),.p (.int .i64 r_)] [] =
 bif (leI (IntKind.i64.wrap ((IntKind.i64.wrap (r_*r_))-r_)) n_) then
  some ([.p (.bool (leI n_ (IntKind.i64.wrap ((IntKind.i64.wrap (r_*r_))+r_))))],[])
 else
  some ([.p (.bool false)],[]):=by kernel_rfl
def S71_1010 (i':Int) (a_b0:Int) (a_b1:Int) (a_b2:Int) (b_b0:Int) (b_b1:Int) (b_b2:Int):St:=⟨.undef::.undef::(.ptr 2 0 0)::(.ptr 3 0 0)::.undef::(.p (.int .i64 i'))::List.replicate 18 .undef,[(2,.box [.p (.int .i64 a_b0),.p (.int .i64 a_b1),.p (.int .i64 a_b2)]),(3,.box [.p (.int .i64 b_b0),.p (.int .i64 b_b1),.p (.int .i64 b_b2)])]⟩
theorem e71 (C:CallF) (a_0:Int) (a_1:Int) (a_2:Int) (b_0:Int) (b_1:Int) (b_2:Int):acallI tab C 71 [.p (.agg [.int .i64 a_0,.int .i64 a_1,.int .i64 a_2]),.p (.agg [.int .i64 b_0,.int .i64 b_1,.int .i64 b_2])] [] =
 L tab C 71 [] [.lp [1,0,1,0]] (S71_1010 0 a_0 a_1 a_2 b_0 b_1 b_2):=by kernel_rfl
theorem e71_1010 (C:CallF) (i':Int) (a_b0:Int) (a_b1:Int) (a_b2:Int) (b_b0:Int) (b_b1:Int) (b_b2:Int):R tab C 71 [] [.lp [1,0,1,0]] (S71_1010 i' a_b0 a_b1 a_b2 b_b0 b_b1 b_b2) =
 bif (ltI i' (3:Int)) then
  (C 87 [.p (.agg [.int .i64 a_b0,.int .i64 a_b1,.int .i64 a_b2]),.p (.int .i64 i')] []).bind fun r1 =>
  (C 87 [.p (.agg [.int .i64 b_b0,.int .i64 b_b1,.int .i64 b_b2]),.p (.int .i64 i')] []).bind fun r2 =>
  bif (ltI ((r1.1.headD .undef).pv.toInt) ((r2.1.headD .undef).pv.toInt)) then
   some ([.p (.int .i64 (-1))],[])
  else
   (C 87 [.p (.agg [.int .i64 a_b0,.int .i64 a_b1,.int .i64 a_b2]),.p (.int .i64 i')] []).bind fun r3 =>
   (C 87 [.p (.agg [.int .i64 b_b0,.int .i64 b_b1,.int .i64 b_b2]),.p (.int .i64 i')] []).bind fun r4 =>
   bif (gtI ((r3.1.headD .undef).pv.toInt) ((r4.1.headD .undef).pv.toInt)) then
    some ([.p (.int .i64 1)],[])
   else
    L tab C 71 [] [.lp [1,0,1,0]] (S71_1010 (IntKind.i64.wrap (i'+(1:Int))) a_b0 a_b1 a_b2 b_b0 b_b1 b_b2)
 else
  some ([.p (.int .i64 0)],[]):=by kernel_rfl
theorem e100 (C:CallF) (a_0:Int) (a_1:Int) (a_2:Int) (b_0:Int) (b_1:Int) (b_2:Int) (num:Int) (den:Int):acallI tab C 100 [.p (.agg [.int .i64 a_0,.int .i64 a_1,.int .i64 a_2]),.p (.agg [.int .i64 b_0,.int .i64 b_1,.int .i64 b_2]),.p (.int .i64 num),.p (.int .i64 den)] [] =
 (C 27 [.p (.agg [.int .i64 b_0,.int .i64 b_1,.int .i64 b_2]),.p (.agg [.int .i64 a_0,.int .i64 a_1,.int .i64 a_2])] []).bind fun r1 =>
 (C 121 [.p (.int .i64 (IntKind.i64.wrap (((r1.1.headD .undef).pv.cell 0).toInt*num))),.p (.int .i64 den)] []).bind fun r2 =>
 (C 121 [.p (.int .i64 (IntKind.i64.wrap (((r1.1.headD .undef).pv.cell 1).toInt*num))),.p (.int .i64 den)] []).bind fun r3 =>
 (C 121 [.p (.int .i64 (IntKind.i64.wrap (((r1.1.headD .undef).pv.cell 2).toInt*num))),.p (.int .i64 den)] []).bind fun r4 =>
 (C 26 [.p (.agg [.int .i64 a_0,.int .i64 a_1,.int .i64 a_2]),.p (.agg [.int .i64 ((r2.1.headD .undef).pv.toInt),.int .i64 ((r3.1.headD .undef).pv.toInt),.int .i64 ((r4.1.headD .undef).pv.toInt)])] []).bind fun r5 =>
 some ([.p (.agg [.int .i64 (((r5.1.headD .undef).pv.cell 0).toInt),.int .i64 (((r5.1.headD .undef).pv.cell 1).toInt),.int .i64 (((r5.1.headD .undef).pv.cell 2).toInt)])],[]):=by kernel_rfl
def S121_1100 (n_':Int) (d':Int) (q':Int):St:=⟨(.p (.int .i64 n_'))::(.p (.int .i64 d'))::.undef::.undef::.undef::(.p (.int .i64 q'))::List.replicate 25 .undef,[]⟩
def S121_11100 (n_':Int) (d':Int) (q':Int):St:=⟨(.p (.int .i64 n_'))::(.p (.int .i64 d'))::.undef::.undef::.undef::(.p (.int .i64 q'))::List.replicate 25 .undef,[]⟩
theorem e121 (C:CallF) (n_:Int) (d:Int):acallI tab C 121 [.p (.int .i64 n_),.p (.int .i64 d)] [] =
 bif (!(eqI d (0:Int))) then L tab C 121 [] [.lp [1,1,0,0]] (S121_1100 n_ d (IntKind.i64.wrap (n_.tdiv d))) else none:=by kernel_rfl
theorem e121_1100 (C:CallF) (n_':Int) (d':Int) (q':Int):R tab C 121 [] [.lp [1,1,0,0]] (S121_1100 n_' d' q') =
 bif (geI (IntKind.i64.wrap ((2:Int)*(IntKind.i64.wrap (n_'-(IntKind.i64.wrap (q'*d')))))) d') then
  L tab C 121 [] [.lp [1,1,0,0]] (S121_1100 n_' d' (IntKind.i64.wrap (q'+(1:Int))))
 else
  L tab C 121 [] [.lp [1,1,1,0,0]] (S121_11100 n_' d' q'):=by kernel_rfl
theorem e121_11100 (C:CallF) (n_':Int) (d':Int) (q':Int):R tab C 121 [] [.lp [1,1,1,0,0]] (S121_11100 n_' d' q') =
 bif (ltI (IntKind.i64.wrap ((2:Int)*(IntKind.i64.wrap (n_'-(IntKind.i64.wrap (q'*d')))))) (IntKind.i64.wrap (0-d'))) then
  L tab C 121 [] [.lp [1,1,1,0,0]] (S121_11100 n_' d' (IntKind.i64.wrap (q'-(1:Int))))
 else
  some ([.p (.int .i64 q')],[]):=by kernel_rfl
end Go.Skm.Fig

