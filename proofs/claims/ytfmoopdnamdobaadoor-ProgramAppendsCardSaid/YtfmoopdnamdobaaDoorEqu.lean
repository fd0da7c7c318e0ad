/-
  What the machine does in each function of this program, and in each round of each loop; no condition.
-/
import Derived.Test.YtfmoopdnamdobaaDoorSkmF
import Derived.Test.YtfmoopdnamdobaaDoorTab
import Derived.KernelRfl
set_option maxRecDepth 100000
namespace Go.Skm.Prg
open Go Go.Skm
def S21_11010n (i':Int)(p_b0 p_b1 p_b2:List PV):St:=⟨.undef::.undef::(.ptr 2 0 0)::(.ptr 3 0 0)::.undef::(.p (.int .i64 i'))::List.replicate 102 .undef,[(2,.box [.p (.list false [.str] p_b0),.p (.list true kV3 p_b1),.p (.list true kAc p_b2)]),(3,.box [.p (.nil),.p (.nil),.p (.nil)])]⟩
def S21_111010n (i':Int)(p_b0 p_b1 p_b2:List PV):St:=⟨.undef::.undef::(.ptr 2 0 0)::(.ptr 3 0 0)::.undef::.undef::(.p (.int .i64 i'))::List.replicate 101 .undef,[(2,.box [.p (.list false [.str] p_b0),.p (.list true kV3 p_b1),.p (.list true kAc p_b2)]),(3,.box [.p (.nil),.p (.nil),.p (.nil)])]⟩
def S21_1111010n (a':Int)(p_b0 p_b1 p_b2:List PV):St:=⟨.undef::.undef::(.ptr 2 0 0)::(.ptr 3 0 0)::.undef::.undef::.undef::(.p (.int .i64 a'))::List.replicate 100 .undef,[(2,.box [.p (.list false [.str] p_b0),.p (.list true kV3 p_b1),.p (.list true kAc p_b2)]),(3,.box [.p (.nil),.p (.nil),.p (.nil)])]⟩
theorem e21n (C:CallF) (p_0 p_1 p_2:List PV):acallI tab C 21 [.p (.agg [.list false [.str] p_0,.list true kV3 p_1,.list true kAc p_2]),.p (.agg [.nil,.nil,.nil])] [] =
 bif (((p_0.length:Nat):Int) != (0:Int)) then
  some ([.p (.bool false)],[])
 else
  bif (((p_1.length:Nat):Int) != (0:Int)) then
   some ([.p (.bool false)],[])
  else
   bif (((p_2.length:Nat):Int) != (0:Int)) then
    some ([.p (.bool false)],[])
   else
    L tab C 21 [] [.lp [1,1,0,1,0]] (S21_11010n 0 p_0 p_1 p_2):=by kernel_rfl
theorem e21_11010n (C:CallF) (i':Int)(p_b0 p_b1 p_b2:List PV):R tab C 21 [] [.lp [1,1,0,1,0]] (S21_11010n i' p_b0 p_b1 p_b2) =
 bif (ltI i' ((p_b0.length:Nat):Int)) then
  bif ((leI (0:Int) i')&&(ltI i' ((p_b0.length:Nat):Int))) then none else none
 else
  L tab C 21 [] [.lp [1,1,1,0,1,0]] (S21_111010n 0 p_b0 p_b1 p_b2):=by kernel_rfl
theorem e21_111010n (C:CallF) (i':Int)(p_b0 p_b1 p_b2:List PV):R tab C 21 [] [.lp [1,1,1,0,1,0]] (S21_111010n i' p_b0 p_b1 p_b2) =
 bif (ltI i' ((p_b1.length:Nat):Int)) then
  bif ((leI (0:Int) i')&&(ltI i' ((p_b1.length:Nat):Int))) then none else none
 else
  L tab C 21 [] [.lp [1,1,1,1,0,1,0]] (S21_1111010n 0 p_b0 p_b1 p_b2):=by kernel_rfl
theorem e21_1111010n (C:CallF) (a':Int)(p_b0 p_b1 p_b2:List PV):R tab C 21 [] [.lp [1,1,1,1,0,1,0]] (S21_1111010n a' p_b0 p_b1 p_b2) =
 bif (ltI a' ((p_b2.length:Nat):Int)) then
  bif ((leI (0:Int) a')&&(ltI a' ((p_b2.length:Nat):Int))) then none else none
 else
  some ([.p (.bool true)],[]):=by kernel_rfl
end Go.Skm.Prg
