/-
  What the machine does in each function of this program, and in each round of each loop; no condition.
-/
import Derived.Test.YtfmoopdnamdobaaDoorSkmF
import Derived.Test.YtfmoopdnamdobaaDoorTab
import Derived.KernelRfl
set_option maxRecDepth 100000
namespace Go.Skm.Prg
open Go Go.Skm
def S3_1111010 (aircraft' acts':Int)(still_o still_l:Nat)(i':Int)(still_b:List PV):St:=⟨(.p (.int .i64 aircraft'))::(.p (.int .i64 acts'))::.undef::.undef::.undef::(.ptr 5 0 0)::(.slice 6 6 still_o still_l)::(.p (.int .i64 i'))::List.replicate 129 .undef,[(5,.box [.p (.nil),.p (.nil),.p (.nil)]),(6,.arr true kMv still_b)]⟩
def S3_1111010_s1 (aircraft' acts':Int)(still_o still_l:Nat)(i':Int)(p_b0_o p_b0_l p_b1_o p_b1_l:Nat)(still_b b5047_b b5054_b:List PV):St:=⟨(.p (.int .i64 aircraft'))::(.p (.int .i64 acts'))::.undef::.undef::.undef::(.ptr 5 0 0)::(.slice 6 6 still_o still_l)::(.p (.int .i64 i'))::List.replicate 129 .undef,[(5,.box [.slice 5047 1 p_b0_o p_b0_l,.slice 5054 3 p_b1_o p_b1_l,.p (.nil)]),(6,.arr true kMv still_b),(5047,.arr false [.str] b5047_b),(5054,.arr true kV3 b5054_b)]⟩
def S3_1111111111010 (acts':Int)(still':List PV)(i':Int)(b5047_b b5054_b:List PV)(q_b0_o q_b0_l q_b1_o q_b1_l moves_b0_o moves_b0_l moves_b1_o moves_b1_l:Nat)(at_b0 at_b1 at_b2:Int):St:=⟨.undef::(.p (.int .i64 acts'))::.undef::.undef::.undef::.undef::(.p (.list true kMv still'))::.undef::(.ptr 8 0 0)::(.ptr 9 0 0)::(.ptr 10 0 0)::(.p (.int .i64 i'))::List.replicate 125 .undef,[(5047,.arr false [.str] b5047_b),(5054,.arr true kV3 b5054_b),(8,.box [.slice 5047 1 q_b0_o q_b0_l,.slice 5054 3 q_b1_o q_b1_l,.p (.nil)]),(9,.box [.slice 5047 1 moves_b0_o moves_b0_l,.slice 5054 3 moves_b1_o moves_b1_l,.p (.nil)]),(10,.box [.p (.int .i64 at_b0),.p (.int .i64 at_b1),.p (.int .i64 at_b2)])]⟩
def S3_1111111111010_s1 (acts':Int)(still':List PV)(i':Int)(b5047_b b5054_b:List PV)(q_b0_o q_b0_l q_b1_o q_b1_l q_b2_o q_b2_l moves_b0_o moves_b0_l moves_b1_o moves_b1_l moves_b2_o moves_b2_l:Nat)(at_b0 at_b1 at_b2:Int)(b5092_b b105_b:List PV):St:=⟨.undef::(.p (.int .i64 acts'))::.undef::.undef::.undef::.undef::(.p (.list true kMv still'))::.undef::(.ptr 8 0 0)::(.ptr 9 0 0)::(.ptr 10 0 0)::(.p (.int .i64 i'))::List.replicate 125 .undef,[(5047,.arr false [.str] b5047_b),(5054,.arr true kV3 b5054_b),(8,.box [.slice 5047 1 q_b0_o q_b0_l,.slice 5054 3 q_b1_o q_b1_l,.slice 5092 3 q_b2_o q_b2_l]),(9,.box [.slice 5047 1 moves_b0_o moves_b0_l,.slice 5054 3 moves_b1_o moves_b1_l,.slice 105 3 moves_b2_o moves_b2_l]),(10,.box [.p (.int .i64 at_b0),.p (.int .i64 at_b1),.p (.int .i64 at_b2)]),(5092,.arr true kAc b5092_b),(105,.arr true kAc b105_b)]⟩
theorem e3 (C:CallF) (aircraft acts:Int):acallI tab C 3 [.p (.int .i64 aircraft),.p (.int .i64 acts)] [] =
 bif (ltI aircraft (58:Int)) then
  (C 8 [] []).bind fun r1 =>
  some ([.p (.bool ((r1.1.headD .undef).pv.toBool))],[])
 else
  bif (gtI aircraft (66:Int)) then
   (C 8 [] []).bind fun r2 =>
   some ([.p (.bool ((r2.1.headD .undef).pv.toBool))],[])
  else
   bif (ltI acts (58:Int)) then
    (C 8 [] []).bind fun r3 =>
    some ([.p (.bool ((r3.1.headD .undef).pv.toBool))],[])
   else
    bif (gtI acts (66:Int)) then
     (C 8 [] []).bind fun r4 =>
     some ([.p (.bool ((r4.1.headD .undef).pv.toBool))],[])
    else
     L tab C 3 [] [.lp [1,1,1,1,0,1,0]] (S3_1111010 aircraft acts 0 0 0 []):=by kernel_rfl
theorem e3_1111010 (C:CallF) (aircraft' acts':Int)(still_o still_l:Nat)(i':Int)(still_b:List PV):R tab C 3 [] [.lp [1,1,1,1,0,1,0]] (S3_1111010 aircraft' acts' still_o still_l i' still_b) =
 bif (ltI i' aircraft') then
  bif (leN ((⟨#[110]⟩:ByteArray).size+(bytesOf ([.int .u8 (IntKind.u8.wrap (IntKind.i64.wrap ((97:Int)+(IntKind.i64.wrap (i'.tdiv (26:Int)))))),.int .u8 (IntKind.u8.wrap (IntKind.i64.wrap ((97:Int)+(i'.tmod (26:Int)))))]:List PV)).size) 4611686018427387904) then(C 9 [.p (.int .i64 i'),.p (.int .i64 0),.p (.int .i64 0)] []).bind fun r1 =>
  (C 9 [.p (.int .i64 i'),.p (.int .i64 0),.p (.int .i64 0)] []).bind fun r2 =>
  bif (leN (still_l+1) 2147483648) then L tab C 3 [] [.lp [1,1,1,1,0,1,0]] (S3_1111010_s1 aircraft' acts' 0 (still_l+1) (IntKind.i64.wrap (i'+(1:Int))) 0 1 0 1 (((still_b.drop still_o).take still_l)++([.agg [.int .i64 (((r2.1.headD .undef).pv.cell 0).toInt),.int .i64 (((r2.1.headD .undef).pv.cell 1).toInt),.int .i64 (((r2.1.headD .undef).pv.cell 2).toInt),.int .i64 0,.int .i64 0,.int .i64 0]]:List PV)) [.str ((⟨#[110]⟩:ByteArray)++(bytesOf ([.int .u8 (IntKind.u8.wrap (IntKind.i64.wrap ((97:Int)+(IntKind.i64.wrap (i'.tdiv (26:Int)))))),.int .u8 (IntKind.u8.wrap (IntKind.i64.wrap ((97:Int)+(i'.tmod (26:Int)))))]:List PV)))] [.agg [.int .i64 (((r1.1.headD .undef).pv.cell 0).toInt),.int .i64 (((r1.1.headD .undef).pv.cell 1).toInt),.int .i64 (((r1.1.headD .undef).pv.cell 2).toInt)]]) else none else none
 else
  (C 10 [.p (.agg [.nil,.nil,.nil])] []).bind fun r3 =>
  bif (!((r3.1.headD .undef).pv.toBool==(leI aircraft' (64:Int)))) then some ([.p (.bool false)],[]) else none:=by kernel_rfl
theorem e3_1111010_s1 (C:CallF) (aircraft' acts':Int)(still_o still_l:Nat)(i':Int)(p_b0_o p_b0_l p_b1_o p_b1_l:Nat)(still_b b5047_b b5054_b:List PV):R tab C 3 [] [.lp [1,1,1,1,0,1,0]] (S3_1111010_s1 aircraft' acts' still_o still_l i' p_b0_o p_b0_l p_b1_o p_b1_l still_b b5047_b b5054_b) =
 bif (ltI i' aircraft') then
  bif (leN ((⟨#[110]⟩:ByteArray).size+(bytesOf ([.int .u8 (IntKind.u8.wrap (IntKind.i64.wrap ((97:Int)+(IntKind.i64.wrap (i'.tdiv (26:Int)))))),.int .u8 (IntKind.u8.wrap (IntKind.i64.wrap ((97:Int)+(i'.tmod (26:Int)))))]:List PV)).size) 4611686018427387904) then bif (leN (p_b0_l+1) 2147483648) then(C 9 [.p (.int .i64 i'),.p (.int .i64 0),.p (.int .i64 0)] []).bind fun r1 =>
  bif (leN (p_b1_l+1) 2147483648) then(C 9 [.p (.int .i64 i'),.p (.int .i64 0),.p (.int .i64 0)] []).bind fun r2 =>
  bif (leN (still_l+1) 2147483648) then L tab C 3 [] [.lp [1,1,1,1,0,1,0]] (S3_1111010_s1 aircraft' acts' 0 (still_l+1) (IntKind.i64.wrap (i'+(1:Int))) 0 (p_b0_l+1) 0 (p_b1_l+1) (((still_b.drop still_o).take still_l)++([.agg [.int .i64 (((r2.1.headD .undef).pv.cell 0).toInt),.int .i64 (((r2.1.headD .undef).pv.cell 1).toInt),.int .i64 (((r2.1.headD .undef).pv.cell 2).toInt),.int .i64 0,.int .i64 0,.int .i64 0]]:List PV)) (((b5047_b.drop p_b0_o).take p_b0_l)++([.str ((⟨#[110]⟩:ByteArray)++(bytesOf ([.int .u8 (IntKind.u8.wrap (IntKind.i64.wrap ((97:Int)+(IntKind.i64.wrap (i'.tdiv (26:Int)))))),.int .u8 (IntKind.u8.wrap (IntKind.i64.wrap ((97:Int)+(i'.tmod (26:Int)))))]:List PV)))]:List PV)) (((b5054_b.drop p_b1_o).take p_b1_l)++([.agg [.int .i64 (((r1.1.headD .undef).pv.cell 0).toInt),.int .i64 (((r1.1.headD .undef).pv.cell 1).toInt),.int .i64 (((r1.1.headD .undef).pv.cell 2).toInt)]]:List PV))) else none else none else none else none
 else
  (C 10 [.p (.agg [.list false [.str] ((b5047_b.drop p_b0_o).take p_b0_l),.list true kV3 ((b5054_b.drop p_b1_o).take p_b1_l),.nil])] []).bind fun r3 =>
  bif (!((r3.1.headD .undef).pv.toBool==(leI aircraft' (64:Int)))) then
   some ([.p (.bool false)],[])
  else
   bif ((leI (1:Int) (p_b0_l:Int))&&(leI (p_b0_l:Int) (p_b0_l:Int))) then bif ((leI (1:Int) (p_b1_l:Int))&&(leI (p_b1_l:Int) (p_b1_l:Int))) then(C 9 [.p (.int .i64 0),.p (.int .i64 0),.p (.int .i64 0)] []).bind fun r4 =>
   L tab C 3 [] [.lp [1,1,1,1,1,1,1,1,1,1,0,1,0]] (S3_1111111111010 acts' ((still_b.drop still_o).take still_l) 0 b5047_b b5054_b (p_b0_o+0) 1 (p_b1_o+0) 1 (p_b0_o+0) 1 (p_b1_o+0) 1 (((r4.1.headD .undef).pv.cell 0).toInt) (((r4.1.headD .undef).pv.cell 1).toInt) (((r4.1.headD .undef).pv.cell 2).toInt)) else none else none:=by kernel_rfl
theorem e3_1111111111010 (C:CallF) (acts':Int)(still':List PV)(i':Int)(b5047_b b5054_b:List PV)(q_b0_o q_b0_l q_b1_o q_b1_l moves_b0_o moves_b0_l moves_b1_o moves_b1_l:Nat)(at_b0 at_b1 at_b2:Int):R tab C 3 [] [.lp [1,1,1,1,1,1,1,1,1,1,0,1,0]] (S3_1111111111010 acts' still' i' b5047_b b5054_b q_b0_o q_b0_l q_b1_o q_b1_l moves_b0_o moves_b0_l moves_b1_o moves_b1_l at_b0 at_b1 at_b2) =
 bif (ltI i' acts') then
  bif ((leI (1:Int) ((still'.length:Nat):Int))&&(leI ((still'.length:Nat):Int) ((still'.length:Nat):Int))) then(C 9 [.p (.int .i64 (IntKind.i64.wrap ((1:Int)-at_b0))),.p (.int .i64 0),.p (.int .i64 0)] []).bind fun r1 =>
  L tab C 3 [] [.lp [1,1,1,1,1,1,1,1,1,1,0,1,0]] (S3_1111111111010_s1 acts' still' (IntKind.i64.wrap (i'+(1:Int))) b5047_b b5054_b q_b0_o q_b0_l q_b1_o q_b1_l 0 1 moves_b0_o moves_b0_l moves_b1_o moves_b1_l 0 1 (((r1.1.headD .undef).pv.cell 0).toInt) (((r1.1.headD .undef).pv.cell 1).toInt) (((r1.1.headD .undef).pv.cell 2).toInt) [.agg [.str ⟨#[97]⟩,.int .i64 1,.list true kMv ((still'.drop 0).take 1)]] [.agg [.str ⟨#[97]⟩,.int .i64 6,.list true kMv [.agg [.int .i64 (((r1.1.headD .undef).pv.cell 0).toInt),.int .i64 (((r1.1.headD .undef).pv.cell 1).toInt),.int .i64 (((r1.1.headD .undef).pv.cell 2).toInt),.int .i64 1,.int .i64 4,.int .i64 1]]]]) else none
 else
  (C 10 [.p (.agg [.list false [.str] ((b5047_b.drop q_b0_o).take q_b0_l),.list true kV3 ((b5054_b.drop q_b1_o).take q_b1_l),.nil])] []).bind fun r2 =>
  bif (!((r2.1.headD .undef).pv.toBool==(leI acts' (60:Int)))) then some ([.p (.bool false)],[]) else none:=by kernel_rfl
theorem e3_1111111111010_s1 (C:CallF) (acts':Int)(still':List PV)(i':Int)(b5047_b b5054_b:List PV)(q_b0_o q_b0_l q_b1_o q_b1_l q_b2_o q_b2_l moves_b0_o moves_b0_l moves_b1_o moves_b1_l moves_b2_o moves_b2_l:Nat)(at_b0 at_b1 at_b2:Int)(b5092_b b105_b:List PV):R tab C 3 [] [.lp [1,1,1,1,1,1,1,1,1,1,0,1,0]] (S3_1111111111010_s1 acts' still' i' b5047_b b5054_b q_b0_o q_b0_l q_b1_o q_b1_l q_b2_o q_b2_l moves_b0_o moves_b0_l moves_b1_o moves_b1_l moves_b2_o moves_b2_l at_b0 at_b1 at_b2 b5092_b b105_b) =
 bif (ltI i' acts') then
  bif ((leI (1:Int) ((still'.length:Nat):Int))&&(leI ((still'.length:Nat):Int) ((still'.length:Nat):Int))) then bif (leN (q_b2_l+1) 2147483648) then(C 9 [.p (.int .i64 (IntKind.i64.wrap ((1:Int)-at_b0))),.p (.int .i64 0),.p (.int .i64 0)] []).bind fun r1 =>
  bif (leN (moves_b2_l+1) 2147483648) then L tab C 3 [] [.lp [1,1,1,1,1,1,1,1,1,1,0,1,0]] (S3_1111111111010_s1 acts' still' (IntKind.i64.wrap (i'+(1:Int))) b5047_b b5054_b q_b0_o q_b0_l q_b1_o q_b1_l 0 (q_b2_l+1) moves_b0_o moves_b0_l moves_b1_o moves_b1_l 0 (moves_b2_l+1) (((r1.1.headD .undef).pv.cell 0).toInt) (((r1.1.headD .undef).pv.cell 1).toInt) (((r1.1.headD .undef).pv.cell 2).toInt) (((b5092_b.drop q_b2_o).take q_b2_l)++([.agg [.str ⟨#[97]⟩,.int .i64 1,.list true kMv ((still'.drop 0).take 1)]]:List PV)) (((b105_b.drop moves_b2_o).take moves_b2_l)++([.agg [.str ⟨#[97]⟩,.int .i64 6,.list true kMv [.agg [.int .i64 (((r1.1.headD .undef).pv.cell 0).toInt),.int .i64 (((r1.1.headD .undef).pv.cell 1).toInt),.int .i64 (((r1.1.headD .undef).pv.cell 2).toInt),.int .i64 1,.int .i64 4,.int .i64 1]]]]:List PV))) else none else none else none
 else
  (C 10 [.p (.agg [.list false [.str] ((b5047_b.drop q_b0_o).take q_b0_l),.list true kV3 ((b5054_b.drop q_b1_o).take q_b1_l),.list true kAc ((b5092_b.drop q_b2_o).take q_b2_l)])] []).bind fun r2 =>
  bif (!((r2.1.headD .undef).pv.toBool==(leI acts' (60:Int)))) then
   some ([.p (.bool false)],[])
  else
   bif ((leI (51:Int) (moves_b2_l:Int))&&(leI (moves_b2_l:Int) (moves_b2_l:Int))) then(C 10 [.p (.agg [.list false [.str] ((b5047_b.drop q_b0_o).take q_b0_l),.list true kV3 ((b5054_b.drop q_b1_o).take q_b1_l),.list true kAc ((b105_b.drop (moves_b2_o+0)).take 51)])] []).bind fun r3 =>
   bif (!((r3.1.headD .undef).pv.toBool==true)) then
    some ([.p (.bool false)],[])
   else
    bif ((leI (52:Int) (moves_b2_l:Int))&&(leI (moves_b2_l:Int) (moves_b2_l:Int))) then(C 10 [.p (.agg [.list false [.str] ((b5047_b.drop q_b0_o).take q_b0_l),.list true kV3 ((b5054_b.drop q_b1_o).take q_b1_l),.list true kAc ((b105_b.drop (moves_b2_o+0)).take 52)])] []).bind fun r4 =>
    bif (r4.1.headD .undef).pv.toBool then
     some ([.p (.bool false)],[])
    else
     (C 8 [] []).bind fun r5 =>
     some ([.p (.bool ((r5.1.headD .undef).pv.toBool))],[]) else none else none:=by kernel_rfl
theorem e4 (C:CallF) (p_0 p_1 p_2:List PV)(acts t:Int)(name:ByteArray):acallI tab C 4 [.p (.agg [.list false [.str] p_0,.list true kV3 p_1,.list true kAc p_2]),.p (.int .i64 acts),.p (.int .i64 t),.p (.str name)] [] =
 (C 11 [.p (.agg [.list false [.str] p_0,.list true kV3 p_1,.list true kAc p_2]),.p (.int .i64 6),.p (.int .i64 5)] []).bind fun r1 =>
 bif (!(r1.1.headD .undef).pv.toBool) then
  (C 8 [] []).bind fun r2 =>
  some ([.p (.bool ((r2.1.headD .undef).pv.toBool))],[])
 else
  bif (gtI ((name.size:Nat):Int) (60:Int)) then
   (C 8 [] []).bind fun r3 =>
   some ([.p (.bool ((r3.1.headD .undef).pv.toBool))],[])
  else
   (C 12 [.p (.agg [.list false [.str] p_0,.list true kV3 p_1,.list true kAc p_2]),.p (.int .i64 acts)] []).bind fun r4 =>
   (C 13 [.p (.agg [.list false [.str] p_0,.list true kV3 p_1,.list true kAc p_2]),.p (.int .i64 t)] []).bind fun r5 =>
   (C 14 [.p (.agg [.list false [.str] p_0,.list true kV3 p_1,.list true kAc p_2]),.p (.str name)] []).bind fun r6 =>
   (C 15 [.p (.agg [.list false [.str] p_0,.list true kV3 p_1,.list true kAc p_2])] []).bind fun r7 =>
   bif (!(r7.1.headD .undef).pv.toBool) then
    bif (((((r4.1.headD .undef).pv.toList).length:Nat):Int)==(0:Int)) then
     bif ((r4.1.tail.headD .undef).pv.toInt==(2:Int)) then
      bif ((r5.1.headD .undef).pv.toInt==(0:Int)) then
       bif ((r5.1.tail.headD .undef).pv.toInt==(0:Int)) then
        bif ((r5.1.tail.tail.headD .undef).pv.toInt==(2:Int)) then
         bif ((r6.1.headD .undef).pv.toInt==(0:Int)) then
          bif ((r6.1.tail.headD .undef).pv.toInt==(2:Int)) then
           (C 8 [] []).bind fun r8 =>
           some ([.p (.bool ((r8.1.headD .undef).pv.toBool))],[])
          else
           some ([.p (.bool false)],[])
         else
          some ([.p (.bool false)],[])
        else
         some ([.p (.bool false)],[])
       else
        some ([.p (.bool false)],[])
      else
       some ([.p (.bool false)],[])
     else
      some ([.p (.bool false)],[])
    else
     some ([.p (.bool false)],[])
   else
    bif (ltI acts (0:Int)) then
     bif (((((r4.1.headD .undef).pv.toList).length:Nat):Int) != (0:Int)) then
      some ([.p (.bool false)],[])
     else
      bif ((r4.1.tail.headD .undef).pv.toInt != (3:Int)) then
       some ([.p (.bool false)],[])
      else
       (C 18 [.p (.agg [.list false [.str] p_0,.list true kV3 p_1,.list true kAc p_2]),.p (.int .i64 t)] []).bind fun r9 =>
       bif ((r5.1.headD .undef).pv.toInt != (r9.1.headD .undef).pv.toInt) then
        some ([.p (.bool false)],[])
       else
        bif ((r5.1.tail.headD .undef).pv.toInt != (r9.1.tail.headD .undef).pv.toInt) then
         some ([.p (.bool false)],[])
        else
         bif ((r5.1.tail.tail.headD .undef).pv.toInt != (r9.1.tail.tail.headD .undef).pv.toInt) then
          some ([.p (.bool false)],[])
         else
          (C 19 [.p (.agg [.list false [.str] p_0,.list true kV3 p_1,.list true kAc p_2]),.p (.str name)] []).bind fun r10 =>
          bif (ltI ((r10.1.headD .undef).pv.toInt) (0:Int)) then
           bif ((r6.1.headD .undef).pv.toInt==(0:Int)) then
            bif ((r6.1.tail.headD .undef).pv.toInt==(9:Int)) then
             (C 8 [] []).bind fun r11 =>
             some ([.p (.bool ((r11.1.headD .undef).pv.toBool))],[])
            else
             some ([.p (.bool false)],[])
           else
            some ([.p (.bool false)],[])
          else
           (C 19 [.p (.agg [.list false [.str] p_0,.list true kV3 p_1,.list true kAc p_2]),.p (.str name)] []).bind fun r12 =>
           bif ((r6.1.headD .undef).pv.toInt==(r12.1.headD .undef).pv.toInt) then
            bif ((r6.1.tail.headD .undef).pv.toInt==(0:Int)) then
             (C 8 [] []).bind fun r13 =>
             some ([.p (.bool ((r13.1.headD .undef).pv.toBool))],[])
            else
             some ([.p (.bool false)],[])
           else
            some ([.p (.bool false)],[])
    else
     bif (gtI acts ((p_2.length:Nat):Int)) then
      bif (((((r4.1.headD .undef).pv.toList).length:Nat):Int) != (0:Int)) then
       some ([.p (.bool false)],[])
      else
       bif ((r4.1.tail.headD .undef).pv.toInt != (3:Int)) then
        some ([.p (.bool false)],[])
       else
        (C 18 [.p (.agg [.list false [.str] p_0,.list true kV3 p_1,.list true kAc p_2]),.p (.int .i64 t)] []).bind fun r14 =>
        bif ((r5.1.headD .undef).pv.toInt != (r14.1.headD .undef).pv.toInt) then
         some ([.p (.bool false)],[])
        else
         bif ((r5.1.tail.headD .undef).pv.toInt != (r14.1.tail.headD .undef).pv.toInt) then
          some ([.p (.bool false)],[])
         else
          bif ((r5.1.tail.tail.headD .undef).pv.toInt != (r14.1.tail.tail.headD .undef).pv.toInt) then
           some ([.p (.bool false)],[])
          else
           (C 19 [.p (.agg [.list false [.str] p_0,.list true kV3 p_1,.list true kAc p_2]),.p (.str name)] []).bind fun r15 =>
           bif (ltI ((r15.1.headD .undef).pv.toInt) (0:Int)) then
            bif ((r6.1.headD .undef).pv.toInt==(0:Int)) then
             bif ((r6.1.tail.headD .undef).pv.toInt==(9:Int)) then
              (C 8 [] []).bind fun r16 =>
              some ([.p (.bool ((r16.1.headD .undef).pv.toBool))],[])
             else
              some ([.p (.bool false)],[])
            else
             some ([.p (.bool false)],[])
           else
            (C 19 [.p (.agg [.list false [.str] p_0,.list true kV3 p_1,.list true kAc p_2]),.p (.str name)] []).bind fun r17 =>
            bif ((r6.1.headD .undef).pv.toInt==(r17.1.headD .undef).pv.toInt) then
             bif ((r6.1.tail.headD .undef).pv.toInt==(0:Int)) then
              (C 8 [] []).bind fun r18 =>
              some ([.p (.bool ((r18.1.headD .undef).pv.toBool))],[])
             else
              some ([.p (.bool false)],[])
            else
             some ([.p (.bool false)],[])
     else
      bif ((r4.1.tail.headD .undef).pv.toInt != (0:Int)) then
       some ([.p (.bool false)],[])
      else
       (C 17 [.p (.agg [.list false [.str] p_0,.list true kV3 p_1,.list true kAc p_2]),.p (.int .i64 acts)] []).bind fun r19 =>
       (C 16 [.p (.list true kV3 ((r4.1.headD .undef).pv.toList)),.p (.list true kV3 ((((r19.1.headD .undef).freshList).drop 0).take ((r19.1.headD .undef).freshList.length)))] []).bind fun r20 =>
       bif (!(r20.1.headD .undef).pv.toBool) then
        some ([.p (.bool false)],[])
       else
        (C 18 [.p (.agg [.list false [.str] p_0,.list true kV3 p_1,.list true kAc p_2]),.p (.int .i64 t)] []).bind fun r21 =>
        bif ((r5.1.headD .undef).pv.toInt != (r21.1.headD .undef).pv.toInt) then
         some ([.p (.bool false)],[])
        else
         bif ((r5.1.tail.headD .undef).pv.toInt != (r21.1.tail.headD .undef).pv.toInt) then
          some ([.p (.bool false)],[])
         else
          bif ((r5.1.tail.tail.headD .undef).pv.toInt != (r21.1.tail.tail.headD .undef).pv.toInt) then
           some ([.p (.bool false)],[])
          else
           (C 19 [.p (.agg [.list false [.str] p_0,.list true kV3 p_1,.list true kAc p_2]),.p (.str name)] []).bind fun r22 =>
           bif (ltI ((r22.1.headD .undef).pv.toInt) (0:Int)) then
            bif ((r6.1.headD .undef).pv.toInt==(0:Int)) then
             bif ((r6.1.tail.headD .undef).pv.toInt==(9:Int)) then
              (C 8 [] []).bind fun r23 =>
              some ([.p (.bool ((r23.1.headD .undef).pv.toBool))],[])
             else
              some ([.p (.bool false)],[])
            else
             some ([.p (.bool false)],[])
           else
            (C 19 [.p (.agg [.list false [.str] p_0,.list true kV3 p_1,.list true kAc p_2]),.p (.str name)] []).bind fun r24 =>
            bif ((r6.1.headD .undef).pv.toInt==(r24.1.headD .undef).pv.toInt) then
             bif ((r6.1.tail.headD .undef).pv.toInt==(0:Int)) then
              (C 8 [] []).bind fun r25 =>
              some ([.p (.bool ((r25.1.headD .undef).pv.toBool))],[])
             else
              some ([.p (.bool false)],[])
            else
             some ([.p (.bool false)],[]):=by kernel_rfl
theorem e5 (C:CallF) (p_0 p_1 p_2:List PV)(a_0:ByteArray)(a_1:Int)(a_2:List PV):acallI tab C 5 [.p (.agg [.list false [.str] p_0,.list true kV3 p_1,.list true kAc p_2]),.p (.agg [.str a_0,.int .i64 a_1,.list true kMv a_2])] [] =
 (C 11 [.p (.agg [.list false [.str] p_0,.list true kV3 p_1,.list true kAc p_2]),.p (.int .i64 6),.p (.int .i64 5)] []).bind fun r1 =>
 bif (!(r1.1.headD .undef).pv.toBool) then
  (C 8 [] []).bind fun r2 =>
  some ([.p (.bool ((r2.1.headD .undef).pv.toBool))],[])
 else
  bif (gtI ((a_2.length:Nat):Int) (8:Int)) then
   (C 8 [] []).bind fun r3 =>
   some ([.p (.bool ((r3.1.headD .undef).pv.toBool))],[])
  else
   bif (gtI ((a_0.size:Nat):Int) (60:Int)) then
    (C 8 [] []).bind fun r4 =>
    some ([.p (.bool ((r4.1.headD .undef).pv.toBool))],[])
   else
    bif (leN p_0.length 2147483648) then bif (leN p_1.length 2147483648) then bif (leN p_2.length 2147483648) then(C 20 [.p (.agg [.list false [.str] p_0,.list true kV3 p_1,.list true kAc p_2]),.p (.agg [.str a_0,.int .i64 a_1,.list true kMv a_2])] []).bind fun r5 =>
    (C 21 [.p (.agg [.list false [.str] p_0,.list true kV3 p_1,.list true kAc p_2]),.p (.agg [.list false [.str] ((p_0.drop 0).take p_0.length),.list true kV3 ((p_1.drop 0).take p_1.length),.list true kAc ((p_2.drop 0).take p_2.length)])] []).bind fun r6 =>
    bif (!(r6.1.headD .undef).pv.toBool) then
     some ([.p (.bool false)],[])
    else
     (C 15 [.p (.agg [.list false [.str] p_0,.list true kV3 p_1,.list true kAc p_2])] []).bind fun r7 =>
     bif (!(r7.1.headD .undef).pv.toBool) then
      (C 21 [.p (.agg [.list false [.str] (((r5.1.headD .undef).pv.cell 0).toList),.list true kV3 (((r5.1.headD .undef).pv.cell 1).toList),.list true kAc (((r5.1.headD .undef).pv.cell 2).toList)]),.p (.agg [.nil,.nil,.nil])] []).bind fun r8 =>
      bif (r8.1.headD .undef).pv.toBool then
       bif ((r5.1.tail.headD .undef).pv.toInt==(2:Int)) then
        (C 8 [] []).bind fun r9 =>
        some ([.p (.bool ((r9.1.headD .undef).pv.toBool))],[])
       else
        some ([.p (.bool false)],[])
      else
       some ([.p (.bool false)],[])
     else
      (C 22 [.p (.agg [.list false [.str] p_0,.list true kV3 p_1,.list true kAc p_2]),.p (.agg [.str a_0,.int .i64 a_1,.list true kMv a_2])] []).bind fun r10 =>
      (C 15 [.p (.agg [.list false [.str] (((r10.1.headD .undef).pv.cell 0).toList),.list true kV3 (((r10.1.headD .undef).pv.cell 1).toList),.list true kAc (((r10.1.headD .undef).pv.cell 2).toList)])] []).bind fun r11 =>
      bif (!(r11.1.headD .undef).pv.toBool) then
       (C 21 [.p (.agg [.list false [.str] (((r5.1.headD .undef).pv.cell 0).toList),.list true kV3 (((r5.1.headD .undef).pv.cell 1).toList),.list true kAc (((r5.1.headD .undef).pv.cell 2).toList)]),.p (.agg [.nil,.nil,.nil])] []).bind fun r12 =>
       bif (r12.1.headD .undef).pv.toBool then
        bif ((r5.1.tail.headD .undef).pv.toInt==(10:Int)) then
         (C 8 [] []).bind fun r13 =>
         some ([.p (.bool ((r13.1.headD .undef).pv.toBool))],[])
        else
         some ([.p (.bool false)],[])
       else
        some ([.p (.bool false)],[])
      else
       bif ((r5.1.tail.headD .undef).pv.toInt==(0:Int)) then
        (C 22 [.p (.agg [.list false [.str] p_0,.list true kV3 p_1,.list true kAc p_2]),.p (.agg [.str a_0,.int .i64 a_1,.list true kMv a_2])] []).bind fun r14 =>
        (C 21 [.p (.agg [.list false [.str] (((r5.1.headD .undef).pv.cell 0).toList),.list true kV3 (((r5.1.headD .undef).pv.cell 1).toList),.list true kAc (((r5.1.headD .undef).pv.cell 2).toList)]),.p (.agg [.list false [.str] (((r14.1.headD .undef).pv.cell 0).toList),.list true kV3 (((r14.1.headD .undef).pv.cell 1).toList),.list true kAc (((r14.1.headD .undef).pv.cell 2).toList)])] []).bind fun r15 =>
        bif (r15.1.headD .undef).pv.toBool then
         (C 8 [] []).bind fun r16 =>
         some ([.p (.bool ((r16.1.headD .undef).pv.toBool))],[])
        else
         some ([.p (.bool false)],[])
       else
        some ([.p (.bool false)],[]) else none else none else none:=by kernel_rfl
theorem e8 (C:CallF) :acallI tab C 8 [] [] =
 (C 33 [] []).bind fun r1 =>
 (C 23 [.p (.agg [.list false [.str] (((r1.1.headD .undef).pv.cell 0).toList),.list true kV3 (((r1.1.headD .undef).pv.cell 1).toList),.list true kAc (((r1.1.headD .undef).pv.cell 2).toList)])] []).bind fun r2 =>
 (C 24 [.p (.agg [.list false [.str] (((r1.1.headD .undef).pv.cell 0).toList),.list true kV3 (((r1.1.headD .undef).pv.cell 1).toList),.list true kAc (((r1.1.headD .undef).pv.cell 2).toList)]),.p (.int .i64 0)] []).bind fun r3 =>
 (C 24 [.p (.agg [.list false [.str] (((r1.1.headD .undef).pv.cell 0).toList),.list true kV3 (((r1.1.headD .undef).pv.cell 1).toList),.list true kAc (((r1.1.headD .undef).pv.cell 2).toList)]),.p (.int .i64 1)] []).bind fun r4 =>
 bif ((r2.1.headD .undef).pv.toInt != (5000:Int)) then
  some ([.p (.bool false)],[])
 else
  bif ((r2.1.tail.headD .undef).pv.toInt != (0:Int)) then
   some ([.p (.bool false)],[])
  else
   bif ((r3.1.tail.headD .undef).pv.toInt != (0:Int)) then
    some ([.p (.bool false)],[])
   else
    bif ((r4.1.tail.headD .undef).pv.toInt != (0:Int)) then
     some ([.p (.bool false)],[])
    else
     bif (((((r3.1.headD .undef).pv.toList).length:Nat):Int) != (2:Int)) then
      some ([.p (.bool false)],[])
     else
      bif (ltI (0:Int) ((((r3.1.headD .undef).pv.toList).length:Nat):Int)) then bif (((((r3.1.headD .undef).pv.toList).getD 0 .nil).cell 1).toInt != (4000:Int)) then
       some ([.p (.bool false)],[])
      else
       bif (ltI (1:Int) ((((r3.1.headD .undef).pv.toList).length:Nat):Int)) then bif (((((r3.1.headD .undef).pv.toList).getD 1 .nil).cell 1).toInt != (5000:Int)) then
        some ([.p (.bool false)],[])
       else
        bif (((((r4.1.headD .undef).pv.toList).length:Nat):Int) != (2:Int)) then
         some ([.p (.bool false)],[])
        else
         bif (ltI (0:Int) ((((r4.1.headD .undef).pv.toList).length:Nat):Int)) then bif (((((r4.1.headD .undef).pv.toList).getD 0 .nil).cell 1).toInt != (1000:Int)) then
          some ([.p (.bool false)],[])
         else
          bif (ltI (1:Int) ((((r4.1.headD .undef).pv.toList).length:Nat):Int)) then bif (((((r4.1.headD .undef).pv.toList).getD 1 .nil).cell 1).toInt != (5000:Int)) then
           some ([.p (.bool false)],[])
          else
           (C 12 [.p (.agg [.list false [.str] (((r1.1.headD .undef).pv.cell 0).toList),.list true kV3 (((r1.1.headD .undef).pv.cell 1).toList),.list true kAc (((r1.1.headD .undef).pv.cell 2).toList)]),.p (.int .i64 0)] []).bind fun r5 =>
           (C 12 [.p (.agg [.list false [.str] (((r1.1.headD .undef).pv.cell 0).toList),.list true kV3 (((r1.1.headD .undef).pv.cell 1).toList),.list true kAc (((r1.1.headD .undef).pv.cell 2).toList)]),.p (.int .i64 1)] []).bind fun r6 =>
           (C 13 [.p (.agg [.list false [.str] (((r1.1.headD .undef).pv.cell 0).toList),.list true kV3 (((r1.1.headD .undef).pv.cell 1).toList),.list true kAc (((r1.1.headD .undef).pv.cell 2).toList)]),.p (.int .i64 5000)] []).bind fun r7 =>
           (C 13 [.p (.agg [.list false [.str] (((r1.1.headD .undef).pv.cell 0).toList),.list true kV3 (((r1.1.headD .undef).pv.cell 1).toList),.list true kAc (((r1.1.headD .undef).pv.cell 2).toList)]),.p (.int .i64 5001)] []).bind fun r8 =>
           (C 14 [.p (.agg [.list false [.str] (((r1.1.headD .undef).pv.cell 0).toList),.list true kV3 (((r1.1.headD .undef).pv.cell 1).toList),.list true kAc (((r1.1.headD .undef).pv.cell 2).toList)]),.p (.str ⟨#[98]⟩)] []).bind fun r9 =>
           bif ((r5.1.tail.headD .undef).pv.toInt != (0:Int)) then
            some ([.p (.bool false)],[])
           else
            bif ((r6.1.tail.headD .undef).pv.toInt != (0:Int)) then
             some ([.p (.bool false)],[])
            else
             bif ((r7.1.tail.tail.headD .undef).pv.toInt != (0:Int)) then
              some ([.p (.bool false)],[])
             else
              bif ((r8.1.tail.tail.headD .undef).pv.toInt != (3:Int)) then
               some ([.p (.bool false)],[])
              else
               bif ((r9.1.headD .undef).pv.toInt != (1:Int)) then
                some ([.p (.bool false)],[])
               else
                bif ((r9.1.tail.headD .undef).pv.toInt != (0:Int)) then
                 some ([.p (.bool false)],[])
                else
                 bif ((r7.1.headD .undef).pv.toInt != (0:Int)) then
                  some ([.p (.bool false)],[])
                 else
                  bif ((r7.1.tail.headD .undef).pv.toInt != (0:Int)) then
                   some ([.p (.bool false)],[])
                  else
                   (C 16 [.p (.list true kV3 ((r5.1.headD .undef).pv.toList)),.p (.list true kV3 (((r1.1.headD .undef).pv.cell 1).toList))] []).bind fun r10 =>
                   bif (!(r10.1.headD .undef).pv.toBool) then
                    some ([.p (.bool false)],[])
                   else
                    (C 9 [.p (.int .i64 0),.p (.int .i64 0),.p (.int .i64 300)] []).bind fun r11 =>
                    (C 9 [.p (.int .i64 500),.p (.int .i64 0),.p (.int .i64 300)] []).bind fun r12 =>
                    (C 16 [.p (.list true kV3 ((r6.1.headD .undef).pv.toList)),.p (.list true kV3 [.agg [.int .i64 (((r11.1.headD .undef).pv.cell 0).toInt),.int .i64 (((r11.1.headD .undef).pv.cell 1).toInt),.int .i64 (((r11.1.headD .undef).pv.cell 2).toInt)],.agg [.int .i64 (((r12.1.headD .undef).pv.cell 0).toInt),.int .i64 (((r12.1.headD .undef).pv.cell 1).toInt),.int .i64 (((r12.1.headD .undef).pv.cell 2).toInt)]])] []).bind fun r13 =>
                    bif (!(r13.1.headD .undef).pv.toBool) then
                     some ([.p (.bool false)],[])
                    else
                     (C 34 [.p (.agg [.list false [.str] (((r1.1.headD .undef).pv.cell 0).toList),.list true kV3 (((r1.1.headD .undef).pv.cell 1).toList),.list true kAc (((r1.1.headD .undef).pv.cell 2).toList)])] []).bind fun r14 =>
                     (C 9 [.p (.int .i64 0),.p (.int .i64 0),.p (.int .i64 0)] []).bind fun r15 =>
                     (C 9 [.p (.int .i64 500),.p (.int .i64 0),.p (.int .i64 300)] []).bind fun r16 =>
                     (C 20 [.p (.agg [.list false [.str] (((r1.1.headD .undef).pv.cell 0).toList),.list true kV3 (((r1.1.headD .undef).pv.cell 1).toList),.list true kAc (((r1.1.headD .undef).pv.cell 2).toList)]),.p (.agg [.str ⟨#[100,111,119,110]⟩,.int .i64 1000,.list true kMv [.agg [.int .i64 (((r15.1.headD .undef).pv.cell 0).toInt),.int .i64 (((r15.1.headD .undef).pv.cell 1).toInt),.int .i64 (((r15.1.headD .undef).pv.cell 2).toInt),.int .i64 0,.int .i64 2000,.int .i64 0],.agg [.int .i64 (((r16.1.headD .undef).pv.cell 0).toInt),.int .i64 (((r16.1.headD .undef).pv.cell 1).toInt),.int .i64 (((r16.1.headD .undef).pv.cell 2).toInt),.int .i64 0,.int .i64 0,.int .i64 0]]])] []).bind fun r17 =>
                     (C 35 [] []).bind fun r18 =>
                     bif (((r14.1.headD .undef).pv.toStr).toList==((r18.1.headD .undef).pv.toStr).toList) then
                      bif ((r14.1.tail.headD .undef).pv.toInt==(0:Int)) then
                       some ([.p (.bool ((r17.1.tail.headD .undef).pv.toInt==(10:Int)))],[])
                      else
                       some ([.p (.bool false)],[])
                     else
                      some ([.p (.bool false)],[]) else none else none else none else none:=by kernel_rfl
theorem e9 (C:CallF) (x y z:Int):acallI tab C 9 [.p (.int .i64 x),.p (.int .i64 y),.p (.int .i64 z)] [] =
 some ([.p (.agg [.int .i64 x,.int .i64 y,.int .i64 z])],[]):=by kernel_rfl
def S10_1111010 (at_':Int)(t24':List PV)(t25' t26':Int)(p_b0 p_b1 p_b2:List PV)(b2_b0:Bool)(b22_b:List PV)(many_b0_o many_b0_l:Nat):St:=⟨.undef::(.ptr 1 0 0)::(.ptr 2 0 0)::(.p (.int .i64 at_'))::(.ptr 4 0 0)::.undef::.undef::.undef::.undef::.undef::.undef::.undef::.undef::.undef::.undef::.undef::.undef::.undef::.undef::.undef::.undef::.undef::.undef::.undef::(.p (.list true kAc t24'))::(.p (.int .i64 t25'))::(.p (.int .i64 t26'))::List.replicate 59 .undef,[(1,.box [.p (.list false [.str] p_b0),.p (.list true kV3 p_b1),.p (.list true kAc p_b2)]),(2,.box [.p (.bool b2_b0)]),(22,.arr false [.int .i64] b22_b),(4,.box [.slice 22 1 many_b0_o many_b0_l])]⟩
def S10_1111010_1100111010 (at_':Int)(t24':List PV)(t25' t26':Int)(t59_c0_r0 t59_c0_r1 t59_c0_r2:List PV)(t59_c1_r0 t59_c2_r0:Int)(p_b0 p_b1 p_b2:List PV)(b2_b0:Bool)(b22_b:List PV)(many_b0_o many_b0_l:Nat)(a_b0:ByteArray)(a_b1:Int)(a_b2:List PV)(i_b0:Int):St:=⟨.undef::(.ptr 1 0 0)::(.ptr 2 0 0)::(.p (.int .i64 at_'))::(.ptr 4 0 0)::.undef::(.ptr 6 0 0)::(.ptr 7 0 0)::.undef::.undef::.undef::.undef::.undef::.undef::.undef::.undef::.undef::.undef::.undef::.undef::.undef::.undef::.undef::.undef::(.p (.list true kAc t24'))::(.p (.int .i64 t25'))::(.p (.int .i64 t26'))::.undef::.undef::.undef::.undef::.undef::.undef::.undef::.undef::.undef::.undef::.undef::.undef::.undef::.undef::.undef::.undef::.undef::.undef::.undef::.undef::.undef::.undef::.undef::.undef::.undef::.undef::.undef::.undef::.undef::.undef::.undef::.undef::(.p (.fn 59 [.ref [.list false [.str] t59_c0_r0,.list true kV3 t59_c0_r1,.list true kAc t59_c0_r2],.ref [.int .i64 t59_c1_r0],.ref [.int .i64 t59_c2_r0]]))::List.replicate 26 .undef,[(1,.box [.p (.list false [.str] p_b0),.p (.list true kV3 p_b1),.p (.list true kAc p_b2)]),(2,.box [.p (.bool b2_b0)]),(22,.arr false [.int .i64] b22_b),(4,.box [.slice 22 1 many_b0_o many_b0_l]),(6,.box [.p (.str a_b0),.p (.int .i64 a_b1),.p (.list true kMv a_b2)]),(7,.box [.p (.int .i64 i_b0)])]⟩
theorem e10 (C:CallF) (p_0 p_1 p_2:List PV):acallI tab C 10 [.p (.agg [.list false [.str] p_0,.list true kV3 p_1,.list true kAc p_2])] [] =
 (C 36 [.p (.agg [.list false [.str] p_0,.list true kV3 p_1,.list true kAc p_2])] []).bind fun r1 =>
 bif (!(r1.1.headD .undef).pv.toBool) then
  some ([.p (.bool false)],[])
 else
  bif (gtI ((p_2.length:Nat):Int) (60:Int)) then
   some ([.p (.bool false)],[])
  else
   bif ((leI (0:Int) ((p_0.length:Nat):Int))&&((leI ((p_0.length:Nat):Int) ((p_0.length:Nat):Int))&&(leI ((p_0.length:Nat):Int) (2147483648:Int)))) then L tab C 10 [] [.lp [1,1,1,1,0,1,0]] (S10_1111010 0 p_2 ((p_2.length:Nat):Int) 0 p_0 p_1 p_2 false (List.replicate (((p_0.length:Nat):Int).toNat) (PV.int .i64 0)) 0 (((p_0.length:Nat):Int).toNat)) else none:=by kernel_rfl
theorem e10_1111010 (C:CallF) (at_':Int)(t24':List PV)(t25' t26':Int)(p_b0 p_b1 p_b2:List PV)(b2_b0:Bool)(b22_b:List PV)(many_b0_o many_b0_l:Nat):R tab C 10 [] [.lp [1,1,1,1,0,1,0]] (S10_1111010 at_' t24' t25' t26' p_b0 p_b1 p_b2 b2_b0 b22_b many_b0_o many_b0_l) =
 bif (ltI t26' t25') then
  bif ((leI (0:Int) t26')&&(ltI t26' ((t24'.length:Nat):Int))) then(C 37 [.p (.str (((t24'.getD t26'.toNat .nil).cell 0).toStr))] []).bind fun r1 =>
  bif (!(r1.1.headD .undef).pv.toBool) then
   some ([.p (.bool false)],[])
  else
   bif (ltI (((t24'.getD t26'.toNat .nil).cell 1).toInt) (1:Int)) then
    some ([.p (.bool false)],[])
   else
    bif (gtI (((t24'.getD t26'.toNat .nil).cell 1).toInt) (IntKind.i64.wrap ((3600000:Int)-at_'))) then
     some ([.p (.bool false)],[])
    else
     bif ((((((t24'.getD t26'.toNat .nil).cell 2).toList).length:Nat):Int) != ((p_b0.length:Nat):Int)) then
      some ([.p (.bool false)],[])
     else
      (C 38 [.p (.agg [.list false [.str] p_b0,.list true kV3 p_b1,.list true kAc p_b2]),.p (.int .i64 t26'),.p (.int .i64 at_')] []).bind fun r2 =>
      (C 59 [.yld,.p (.ref [.list false [.str] ((((r2.1.headD .undef).pv.cap 0).rcell 0).toList),.list true kV3 ((((r2.1.headD .undef).pv.cap 0).rcell 1).toList),.list true kAc ((((r2.1.headD .undef).pv.cap 0).rcell 2).toList)]),.p (.ref [.int .i64 ((((r2.1.headD .undef).pv.cap 1).rcell 0).toInt)]),.p (.ref [.int .i64 ((((r2.1.headD .undef).pv.cap 2).rcell 0).toInt)])] [.log true []]).bind fun r3 =>
      L tab C 10 [] [.lp [1,1,1,1,0,1,0],.rg [1,1,0,0,1,1,1,0,1,0] [(false,[.slice true kSg]),(false,[.int .i64])] (logOf r3.2)] (S10_1111010_1100111010 at_' t24' t25' t26' ((((r2.1.headD .undef).pv.cap 0).rcell 0).toList) ((((r2.1.headD .undef).pv.cap 0).rcell 1).toList) ((((r2.1.headD .undef).pv.cap 0).rcell 2).toList) ((((r2.1.headD .undef).pv.cap 1).rcell 0).toInt) ((((r2.1.headD .undef).pv.cap 2).rcell 0).toInt) p_b0 p_b1 p_b2 b2_b0 b22_b many_b0_o many_b0_l (((t24'.getD t26'.toNat .nil).cell 0).toStr) (((t24'.getD t26'.toNat .nil).cell 1).toInt) (((t24'.getD t26'.toNat .nil).cell 2).toList) 0) else none
 else
  some ([.p (.bool true)],[]):=by kernel_rfl
theorem e10_1111010_1100111010_nil (C:CallF) (at_':Int)(t24':List PV)(t25' t26':Int)(t59_c0_r0 t59_c0_r1 t59_c0_r2:List PV)(t59_c1_r0 t59_c2_r0:Int)(p_b0 p_b1 p_b2:List PV)(b2_b0:Bool)(b22_b:List PV)(many_b0_o many_b0_l:Nat)(a_b0:ByteArray)(a_b1:Int)(a_b2:List PV)(i_b0:Int):L tab C 10 [] [.lp [1,1,1,1,0,1,0],.rg [1,1,0,0,1,1,1,0,1,0] [(false,[.slice true kSg]),(false,[.int .i64])] []] (S10_1111010_1100111010 at_' t24' t25' t26' t59_c0_r0 t59_c0_r1 t59_c0_r2 t59_c1_r0 t59_c2_r0 p_b0 p_b1 p_b2 b2_b0 b22_b many_b0_o many_b0_l a_b0 a_b1 a_b2 i_b0) =
 L tab C 10 [] [.lp [1,1,1,1,0,1,0]] (S10_1111010 (IntKind.i64.wrap (at_'+a_b1)) t24' t25' (IntKind.i64.wrap (t26'+(1:Int))) p_b0 p_b1 p_b2 b2_b0 b22_b many_b0_o many_b0_l):=by kernel_rfl
theorem e10_1111010_1100111010_cons (C:CallF) (at_':Int)(t24':List PV)(t25' t26':Int)(t59_c0_r0 t59_c0_r1 t59_c0_r2:List PV)(t59_c1_r0 t59_c2_r0:Int)(p_b0 p_b1 p_b2:List PV)(b2_b0:Bool)(b22_b:List PV)(many_b0_o many_b0_l:Nat)(a_b0:ByteArray)(a_b1:Int)(a_b2:List PV)(i_b0:Int)(y0:List PV)(y1:Int)(ys:List PV):L tab C 10 [] [.lp [1,1,1,1,0,1,0],.rg [1,1,0,0,1,1,1,0,1,0] [(false,[.slice true kSg]),(false,[.int .i64])] (.agg [.list true kSg y0,.int .i64 y1]::ys)] (S10_1111010_1100111010 at_' t24' t25' t26' t59_c0_r0 t59_c0_r1 t59_c0_r2 t59_c1_r0 t59_c2_r0 p_b0 p_b1 p_b2 b2_b0 b22_b many_b0_o many_b0_l a_b0 a_b1 a_b2 i_b0) =
 bif ((leI (0:Int) i_b0)&&(ltI i_b0 (many_b0_l:Int))) then bif ((leI (0:Int) i_b0)&&(ltI i_b0 (many_b0_l:Int))) then bif (y1 != (0:Int)) then
  some ([.p (.bool false)],[])
 else
  bif ((leI (0:Int) i_b0)&&(ltI i_b0 (many_b0_l:Int))) then bif (gtI ((((b22_b.set (many_b0_o+i_b0.toNat) (PV.int .i64 (IntKind.i64.wrap (((b22_b.getD (many_b0_o+i_b0.toNat) .nil).cell 0).toInt+((y0.length:Nat):Int))))).getD (many_b0_o+i_b0.toNat) .nil).cell 0).toInt) (256:Int)) then
   some ([.p (.bool false)],[])
  else
   L tab C 10 [] [.lp [1,1,1,1,0,1,0],.rg [1,1,0,0,1,1,1,0,1,0] [(false,[.slice true kSg]),(false,[.int .i64])] ys] (S10_1111010_1100111010 at_' t24' t25' t26' t59_c0_r0 t59_c0_r1 t59_c0_r2 t59_c1_r0 t59_c2_r0 p_b0 p_b1 p_b2 b2_b0 (b22_b.set (many_b0_o+i_b0.toNat) (PV.int .i64 (IntKind.i64.wrap (((b22_b.getD (many_b0_o+i_b0.toNat) .nil).cell 0).toInt+((y0.length:Nat):Int))))) many_b0_o many_b0_l a_b0 a_b1 a_b2 (IntKind.i64.wrap (i_b0+(1:Int)))) else none else none else none:=by kernel_rfl
def S11_11010 (aircraft' i':Int)(p_b0 p_b1 p_b2:List PV):St:=⟨.undef::(.p (.int .i64 aircraft'))::.undef::(.ptr 3 0 0)::.undef::.undef::.undef::(.p (.int .i64 i'))::List.replicate 61 .undef,[(3,.box [.p (.list false [.str] p_b0),.p (.list true kV3 p_b1),.p (.list true kAc p_b2)])]⟩
def S11_111010 (aircraft' a':Int)(p_b0 p_b1 p_b2:List PV):St:=⟨.undef::(.p (.int .i64 aircraft'))::.undef::(.ptr 3 0 0)::.undef::.undef::.undef::.undef::(.p (.int .i64 a'))::List.replicate 60 .undef,[(3,.box [.p (.list false [.str] p_b0),.p (.list true kV3 p_b1),.p (.list true kAc p_b2)])]⟩
theorem e11 (C:CallF) (p_0 p_1 p_2:List PV)(aircraft acts:Int):acallI tab C 11 [.p (.agg [.list false [.str] p_0,.list true kV3 p_1,.list true kAc p_2]),.p (.int .i64 aircraft),.p (.int .i64 acts)] [] =
 bif (gtI ((p_0.length:Nat):Int) aircraft) then
  some ([.p (.bool false)],[])
 else
  bif (gtI ((p_1.length:Nat):Int) aircraft) then
   some ([.p (.bool false)],[])
  else
   bif (gtI ((p_2.length:Nat):Int) acts) then
    some ([.p (.bool false)],[])
   else
    L tab C 11 [] [.lp [1,1,0,1,0]] (S11_11010 aircraft 0 p_0 p_1 p_2):=by kernel_rfl
theorem e11_11010 (C:CallF) (aircraft' i':Int)(p_b0 p_b1 p_b2:List PV):R tab C 11 [] [.lp [1,1,0,1,0]] (S11_11010 aircraft' i' p_b0 p_b1 p_b2) =
 bif (ltI i' ((p_b0.length:Nat):Int)) then
  bif ((leI (0:Int) i')&&(ltI i' ((p_b0.length:Nat):Int))) then bif (gtI (((((p_b0.getD i'.toNat .nil).cell 0).toStr).size:Nat):Int) (60:Int)) then
   some ([.p (.bool false)],[])
  else
   L tab C 11 [] [.lp [1,1,0,1,0]] (S11_11010 aircraft' (IntKind.i64.wrap (i'+(1:Int))) p_b0 p_b1 p_b2) else none
 else
  L tab C 11 [] [.lp [1,1,1,0,1,0]] (S11_111010 aircraft' 0 p_b0 p_b1 p_b2):=by kernel_rfl
theorem e11_111010 (C:CallF) (aircraft' a':Int)(p_b0 p_b1 p_b2:List PV):R tab C 11 [] [.lp [1,1,1,0,1,0]] (S11_111010 aircraft' a' p_b0 p_b1 p_b2) =
 bif (ltI a' ((p_b2.length:Nat):Int)) then
  bif ((leI (0:Int) a')&&(ltI a' ((p_b2.length:Nat):Int))) then bif (gtI (((((p_b2.getD a'.toNat .nil).cell 0).toStr).size:Nat):Int) (60:Int)) then
   some ([.p (.bool false)],[])
  else
   bif ((leI (0:Int) a')&&(ltI a' ((p_b2.length:Nat):Int))) then bif (gtI (((((p_b2.getD a'.toNat .nil).cell 2).toList).length:Nat):Int) (IntKind.i64.wrap (aircraft'+(2:Int)))) then
    some ([.p (.bool false)],[])
   else
    L tab C 11 [] [.lp [1,1,1,0,1,0]] (S11_111010 aircraft' (IntKind.i64.wrap (a'+(1:Int))) p_b0 p_b1 p_b2) else none else none
 else
  some ([.p (.bool true)],[]):=by kernel_rfl
theorem e12 (C:CallF) (p_0 p_1 p_2:List PV)(acts:Int):acallI tab C 12 [.p (.agg [.list false [.str] p_0,.list true kV3 p_1,.list true kAc p_2]),.p (.int .i64 acts)] [] =
 (C 10 [.p (.agg [.list false [.str] p_0,.list true kV3 p_1,.list true kAc p_2])] []).bind fun r1 =>
 bif (!(r1.1.headD .undef).pv.toBool) then
  some ([.p (.list true kV3 []),.p (.int .i64 2)],[])
 else
  bif (ltI acts (0:Int)) then
   some ([.p (.list true kV3 []),.p (.int .i64 3)],[])
  else
   bif (gtI acts ((p_2.length:Nat):Int)) then
    some ([.p (.list true kV3 []),.p (.int .i64 3)],[])
   else
    (C 39 [.p (.agg [.list false [.str] p_0,.list true kV3 p_1,.list true kAc p_2]),.p (.int .i64 acts)] []).bind fun r2 =>
    some ([.p (.list true kV3 ((r2.1.headD .undef).pv.toList)),.p (.int .i64 0)],[]):=by kernel_rfl
def S13_11100 (t' act_' from_':Int)(p_b0 p_b1 p_b2:List PV):St:=⟨.undef::(.p (.int .i64 t'))::(.ptr 2 0 0)::.undef::(.p (.int .i64 act_'))::(.p (.int .i64 from_'))::List.replicate 53 .undef,[(2,.box [.p (.list false [.str] p_b0),.p (.list true kV3 p_b1),.p (.list true kAc p_b2)])]⟩
theorem e13 (C:CallF) (p_0 p_1 p_2:List PV)(t:Int):acallI tab C 13 [.p (.agg [.list false [.str] p_0,.list true kV3 p_1,.list true kAc p_2]),.p (.int .i64 t)] [] =
 (C 23 [.p (.agg [.list false [.str] p_0,.list true kV3 p_1,.list true kAc p_2])] []).bind fun r1 =>
 bif ((r1.1.tail.headD .undef).pv.toInt != (0:Int)) then
  some ([.p (.int .i64 0),.p (.int .i64 0),.p (.int .i64 ((r1.1.tail.headD .undef).pv.toInt))],[])
 else
  bif (ltI t (0:Int)) then
   some ([.p (.int .i64 0),.p (.int .i64 0),.p (.int .i64 3)],[])
  else
   bif (gtI t ((r1.1.headD .undef).pv.toInt)) then
    some ([.p (.int .i64 0),.p (.int .i64 0),.p (.int .i64 3)],[])
   else
    bif ((r1.1.headD .undef).pv.toInt==(0:Int)) then
     some ([.p (.int .i64 0),.p (.int .i64 0),.p (.int .i64 3)],[])
    else
     L tab C 13 [] [.lp [1,1,1,0,0]] (S13_11100 t 0 0 p_0 p_1 p_2):=by kernel_rfl
theorem e13_11100 (C:CallF) (t' act_' from_':Int)(p_b0 p_b1 p_b2:List PV):R tab C 13 [] [.lp [1,1,1,0,0]] (S13_11100 t' act_' from_' p_b0 p_b1 p_b2) =
 bif (ltI act_' (IntKind.i64.wrap (((p_b2.length:Nat):Int)-(1:Int)))) then
  bif ((leI (0:Int) act_')&&(ltI act_' ((p_b2.length:Nat):Int))) then bif (leI (IntKind.i64.wrap (from_'+((p_b2.getD act_'.toNat .nil).cell 1).toInt)) t') then
   bif ((leI (0:Int) act_')&&(ltI act_' ((p_b2.length:Nat):Int))) then L tab C 13 [] [.lp [1,1,1,0,0]] (S13_11100 t' (IntKind.i64.wrap (act_'+(1:Int))) (IntKind.i64.wrap (from_'+((p_b2.getD act_'.toNat .nil).cell 1).toInt)) p_b0 p_b1 p_b2) else none
  else
   some ([.p (.int .i64 act_'),.p (.int .i64 from_'),.p (.int .i64 0)],[]) else none
 else
  some ([.p (.int .i64 act_'),.p (.int .i64 from_'),.p (.int .i64 0)],[]):=by kernel_rfl
theorem e14 (C:CallF) (p_0 p_1 p_2:List PV)(name:ByteArray):acallI tab C 14 [.p (.agg [.list false [.str] p_0,.list true kV3 p_1,.list true kAc p_2]),.p (.str name)] [] =
 (C 10 [.p (.agg [.list false [.str] p_0,.list true kV3 p_1,.list true kAc p_2])] []).bind fun r1 =>
 bif (!(r1.1.headD .undef).pv.toBool) then
  some ([.p (.int .i64 0),.p (.int .i64 2)],[])
 else
  (C 40 [.p (.list false [.str] p_0),.p (.str name)] []).bind fun r2 =>
  bif (ltI ((r2.1.headD .undef).pv.toInt) (0:Int)) then
   some ([.p (.int .i64 0),.p (.int .i64 9)],[])
  else
   some ([.p (.int .i64 ((r2.1.headD .undef).pv.toInt)),.p (.int .i64 0)],[]):=by kernel_rfl
def S15_111010 (n_' i':Int)(p_b0 p_b1 p_b2:List PV):St:=⟨.undef::(.ptr 1 0 0)::.undef::(.p (.int .i64 n_'))::(.p (.int .i64 i'))::List.replicate 168 .undef,[(1,.box [.p (.list false [.str] p_b0),.p (.list true kV3 p_b1),.p (.list true kAc p_b2)])]⟩
def S15_111010_100110 (n_' i' k':Int)(p_b0 p_b1 p_b2:List PV):St:=⟨.undef::(.ptr 1 0 0)::.undef::(.p (.int .i64 n_'))::(.p (.int .i64 i'))::(.p (.int .i64 k'))::List.replicate 167 .undef,[(1,.box [.p (.list false [.str] p_b0),.p (.list true kV3 p_b1),.p (.list true kAc p_b2)])]⟩
def S15_111111010 (n_' at_':Int)(many_o many_l:Nat)(a':Int)(p_b0 p_b1 p_b2 many_b:List PV):St:=⟨.undef::(.ptr 1 0 0)::.undef::(.p (.int .i64 n_'))::.undef::.undef::(.p (.int .i64 at_'))::(.slice 7 1 many_o many_l)::(.p (.int .i64 a'))::List.replicate 164 .undef,[(1,.box [.p (.list false [.str] p_b0),.p (.list true kV3 p_b1),.p (.list true kAc p_b2)]),(7,.arr false [.int .i64] many_b)]⟩
def S15_111111010_100111010 (n_' at_':Int)(many_o many_l:Nat)(a':Int)(from__o from__l:Nat)(i':Int)(p_b0 p_b1 p_b2 many_b:List PV)(x_b0:ByteArray)(x_b1:Int)(x_b2 from_b:List PV):St:=⟨.undef::(.ptr 1 0 0)::.undef::(.p (.int .i64 n_'))::.undef::.undef::(.p (.int .i64 at_'))::(.slice 7 1 many_o many_l)::(.p (.int .i64 a'))::(.ptr 9 0 0)::(.slice 10 3 from__o from__l)::(.p (.int .i64 i'))::List.replicate 161 .undef,[(1,.box [.p (.list false [.str] p_b0),.p (.list true kV3 p_b1),.p (.list true kAc p_b2)]),(7,.arr false [.int .i64] many_b),(9,.box [.p (.str x_b0),.p (.int .i64 x_b1),.p (.list true kMv x_b2)]),(10,.arr true kV3 from_b)]⟩
theorem e15 (C:CallF) (p_0 p_1 p_2:List PV):acallI tab C 15 [.p (.agg [.list false [.str] p_0,.list true kV3 p_1,.list true kAc p_2])] [] =
 bif (ltI ((p_0.length:Nat):Int) (1:Int)) then
  some ([.p (.bool false)],[])
 else
  bif (gtI ((p_0.length:Nat):Int) (64:Int)) then
   some ([.p (.bool false)],[])
  else
   bif (((p_1.length:Nat):Int) != ((p_0.length:Nat):Int)) then
    some ([.p (.bool false)],[])
   else
    bif (gtI ((p_2.length:Nat):Int) (60:Int)) then
     some ([.p (.bool false)],[])
    else
     L tab C 15 [] [.lp [1,1,1,0,1,0]] (S15_111010 ((p_0.length:Nat):Int) 0 p_0 p_1 p_2):=by kernel_rfl
theorem e15_111010 (C:CallF) (n_' i':Int)(p_b0 p_b1 p_b2:List PV):R tab C 15 [] [.lp [1,1,1,0,1,0]] (S15_111010 n_' i' p_b0 p_b1 p_b2) =
 bif (ltI i' n_') then
  bif ((leI (0:Int) i')&&(ltI i' ((p_b0.length:Nat):Int))) then(C 41 [.p (.str (((p_b0.getD i'.toNat .nil).cell 0).toStr))] []).bind fun r1 =>
  bif (!(r1.1.headD .undef).pv.toBool) then
   some ([.p (.bool false)],[])
  else
   bif ((leI (0:Int) i')&&(ltI i' ((p_b1.length:Nat):Int))) then(C 42 [.p (.agg [.int .i64 (((p_b1.getD i'.toNat .nil).cell 0).toInt),.int .i64 (((p_b1.getD i'.toNat .nil).cell 1).toInt),.int .i64 (((p_b1.getD i'.toNat .nil).cell 2).toInt)])] []).bind fun r2 =>
   bif (!(r2.1.headD .undef).pv.toBool) then
    some ([.p (.bool false)],[])
   else
    L tab C 15 [] [.lp [1,1,1,0,1,0],.lp [1,0,0,1,1,0]] (S15_111010_100110 n_' i' 0 p_b0 p_b1 p_b2) else none else none
 else
  bif ((leI (0:Int) n_')&&((leI n_' n_')&&(leI n_' (2147483648:Int)))) then L tab C 15 [] [.lp [1,1,1,1,1,1,0,1,0]] (S15_111111010 n_' 0 0 n_'.toNat 0 p_b0 p_b1 p_b2 (List.replicate n_'.toNat (PV.int .i64 0))) else none:=by kernel_rfl
theorem e15_111010_100110 (C:CallF) (n_' i' k':Int)(p_b0 p_b1 p_b2:List PV):R tab C 15 [] [.lp [1,1,1,0,1,0],.lp [1,0,0,1,1,0]] (S15_111010_100110 n_' i' k' p_b0 p_b1 p_b2) =
 bif (ltI k' i') then
  bif ((leI (0:Int) k')&&(ltI k' ((p_b0.length:Nat):Int))) then bif ((leI (0:Int) i')&&(ltI i' ((p_b0.length:Nat):Int))) then bif ((((p_b0.getD k'.toNat .nil).cell 0).toStr).toList==(((p_b0.getD i'.toNat .nil).cell 0).toStr).toList) then
   some ([.p (.bool false)],[])
  else
   bif ((leI (0:Int) k')&&(ltI k' ((p_b1.length:Nat):Int))) then bif ((leI (0:Int) i')&&(ltI i' ((p_b1.length:Nat):Int))) then bif ((((p_b1.getD k'.toNat .nil).cell 0).toInt==((p_b1.getD i'.toNat .nil).cell 0).toInt)&&((((p_b1.getD k'.toNat .nil).cell 1).toInt==((p_b1.getD i'.toNat .nil).cell 1).toInt)&&((((p_b1.getD k'.toNat .nil).cell 2).toInt==((p_b1.getD i'.toNat .nil).cell 2).toInt)&&true))) then
    some ([.p (.bool false)],[])
   else
    L tab C 15 [] [.lp [1,1,1,0,1,0],.lp [1,0,0,1,1,0]] (S15_111010_100110 n_' i' (IntKind.i64.wrap (k'+(1:Int))) p_b0 p_b1 p_b2) else none else none else none else none
 else
  L tab C 15 [] [.lp [1,1,1,0,1,0]] (S15_111010 n_' (IntKind.i64.wrap (i'+(1:Int))) p_b0 p_b1 p_b2):=by kernel_rfl
theorem e15_111111010 (C:CallF) (n_' at_':Int)(many_o many_l:Nat)(a':Int)(p_b0 p_b1 p_b2 many_b:List PV):R tab C 15 [] [.lp [1,1,1,1,1,1,0,1,0]] (S15_111111010 n_' at_' many_o many_l a' p_b0 p_b1 p_b2 many_b) =
 bif (ltI a' ((p_b2.length:Nat):Int)) then
  bif ((leI (0:Int) a')&&(ltI a' ((p_b2.length:Nat):Int))) then(C 41 [.p (.str (((p_b2.getD a'.toNat .nil).cell 0).toStr))] []).bind fun r1 =>
  bif (!(r1.1.headD .undef).pv.toBool) then
   some ([.p (.bool false)],[])
  else
   bif (ltI (((p_b2.getD a'.toNat .nil).cell 1).toInt) (1:Int)) then
    some ([.p (.bool false)],[])
   else
    bif (gtI (((p_b2.getD a'.toNat .nil).cell 1).toInt) (IntKind.i64.wrap ((3600000:Int)-at_'))) then
     some ([.p (.bool false)],[])
    else
     bif ((((((p_b2.getD a'.toNat .nil).cell 2).toList).length:Nat):Int) != n_') then
      some ([.p (.bool false)],[])
     else
      (C 17 [.p (.agg [.list false [.str] p_b0,.list true kV3 p_b1,.list true kAc p_b2]),.p (.int .i64 a')] []).bind fun r2 =>
      L tab C 15 [] [.lp [1,1,1,1,1,1,0,1,0],.lp [1,0,0,1,1,1,0,1,0]] (S15_111111010_100111010 n_' at_' many_o many_l a' 0 ((r2.1.headD .undef).freshList.length) 0 p_b0 p_b1 p_b2 many_b (((p_b2.getD a'.toNat .nil).cell 0).toStr) (((p_b2.getD a'.toNat .nil).cell 1).toInt) (((p_b2.getD a'.toNat .nil).cell 2).toList) ((r2.1.headD .undef).freshList)) else none
 else
  some ([.p (.bool true)],[]):=by kernel_rfl
theorem e15_111111010_100111010 (C:CallF) (n_' at_':Int)(many_o many_l:Nat)(a':Int)(from__o from__l:Nat)(i':Int)(p_b0 p_b1 p_b2 many_b:List PV)(x_b0:ByteArray)(x_b1:Int)(x_b2 from_b:List PV):R tab C 15 [] [.lp [1,1,1,1,1,1,0,1,0],.lp [1,0,0,1,1,1,0,1,0]] (S15_111111010_100111010 n_' at_' many_o many_l a' from__o from__l i' p_b0 p_b1 p_b2 many_b x_b0 x_b1 x_b2 from_b) =
 bif (ltI i' n_') then
  bif ((leI (0:Int) i')&&(ltI i' (from__l:Int))) then bif ((leI (0:Int) i')&&(ltI i' ((x_b2.length:Nat):Int))) then(C 43 [.p (.agg [.int .i64 (((from_b.getD (from__o+i'.toNat) .nil).cell 0).toInt),.int .i64 (((from_b.getD (from__o+i'.toNat) .nil).cell 1).toInt),.int .i64 (((from_b.getD (from__o+i'.toNat) .nil).cell 2).toInt)]),.p (.agg [.int .i64 (((x_b2.getD i'.toNat .nil).cell 0).toInt),.int .i64 (((x_b2.getD i'.toNat .nil).cell 1).toInt),.int .i64 (((x_b2.getD i'.toNat .nil).cell 2).toInt),.int .i64 (((x_b2.getD i'.toNat .nil).cell 3).toInt),.int .i64 (((x_b2.getD i'.toNat .nil).cell 4).toInt),.int .i64 (((x_b2.getD i'.toNat .nil).cell 5).toInt)]),.p (.int .i64 x_b1)] []).bind fun r1 =>
  bif (!(r1.1.headD .undef).pv.toBool) then
   some ([.p (.bool false)],[])
  else
   bif ((leI (0:Int) i')&&(ltI i' (many_l:Int))) then bif ((leI (0:Int) i')&&(ltI i' (from__l:Int))) then bif ((leI (0:Int) i')&&(ltI i' ((x_b2.length:Nat):Int))) then(C 44 [.p (.agg [.int .i64 (((from_b.getD (from__o+i'.toNat) .nil).cell 0).toInt),.int .i64 (((from_b.getD (from__o+i'.toNat) .nil).cell 1).toInt),.int .i64 (((from_b.getD (from__o+i'.toNat) .nil).cell 2).toInt)]),.p (.agg [.int .i64 (((x_b2.getD i'.toNat .nil).cell 0).toInt),.int .i64 (((x_b2.getD i'.toNat .nil).cell 1).toInt),.int .i64 (((x_b2.getD i'.toNat .nil).cell 2).toInt),.int .i64 (((x_b2.getD i'.toNat .nil).cell 3).toInt),.int .i64 (((x_b2.getD i'.toNat .nil).cell 4).toInt),.int .i64 (((x_b2.getD i'.toNat .nil).cell 5).toInt)]),.p (.int .i64 at_'),.p (.int .i64 x_b1)] []).bind fun r2 =>
   bif ((leI (0:Int) i')&&(ltI i' (many_l:Int))) then bif ((leI (0:Int) i')&&(ltI i' (many_l:Int))) then bif (gtI ((((many_b.set (many_o+i'.toNat) (PV.int .i64 (IntKind.i64.wrap (((many_b.getD (many_o+i'.toNat) .nil).cell 0).toInt+(((r2.1.headD .undef).freshList.length:Nat):Int))))).getD (many_o+i'.toNat) .nil).cell 0).toInt) (256:Int)) then
    some ([.p (.bool false)],[])
   else
    L tab C 15 [] [.lp [1,1,1,1,1,1,0,1,0],.lp [1,0,0,1,1,1,0,1,0]] (S15_111111010_100111010 n_' at_' many_o many_l a' from__o from__l (IntKind.i64.wrap (i'+(1:Int))) p_b0 p_b1 p_b2 (many_b.set (many_o+i'.toNat) (PV.int .i64 (IntKind.i64.wrap (((many_b.getD (many_o+i'.toNat) .nil).cell 0).toInt+(((r2.1.headD .undef).freshList.length:Nat):Int))))) x_b0 x_b1 x_b2 from_b) else none else none else none else none else none else none else none
 else
  L tab C 15 [] [.lp [1,1,1,1,1,1,0,1,0]] (S15_111111010 n_' (IntKind.i64.wrap (at_'+x_b1)) many_o many_l (IntKind.i64.wrap (a'+(1:Int))) p_b0 p_b1 p_b2 many_b):=by kernel_rfl
def S16_11010 (a' b':List PV)(i':Int):St:=⟨(.p (.list true kV3 a'))::(.p (.list true kV3 b'))::.undef::.undef::.undef::(.p (.int .i64 i'))::List.replicate 20 .undef,[]⟩
theorem e16 (C:CallF) (a b:List PV):acallI tab C 16 [.p (.list true kV3 a),.p (.list true kV3 b)] [] =
 bif (((a.length:Nat):Int) != ((b.length:Nat):Int)) then
  some ([.p (.bool false)],[])
 else
  L tab C 16 [] [.lp [1,1,0,1,0]] (S16_11010 a b 0):=by kernel_rfl
theorem e16_11010 (C:CallF) (a' b':List PV)(i':Int):R tab C 16 [] [.lp [1,1,0,1,0]] (S16_11010 a' b' i') =
 bif (ltI i' ((a'.length:Nat):Int)) then
  bif ((leI (0:Int) i')&&(ltI i' ((a'.length:Nat):Int))) then bif ((leI (0:Int) i')&&(ltI i' ((b'.length:Nat):Int))) then bif (!((((a'.getD i'.toNat .nil).cell 0).toInt==((b'.getD i'.toNat .nil).cell 0).toInt)&&((((a'.getD i'.toNat .nil).cell 1).toInt==((b'.getD i'.toNat .nil).cell 1).toInt)&&((((a'.getD i'.toNat .nil).cell 2).toInt==((b'.getD i'.toNat .nil).cell 2).toInt)&&true)))) then
   some ([.p (.bool false)],[])
  else
   L tab C 16 [] [.lp [1,1,0,1,0]] (S16_11010 a' b' (IntKind.i64.wrap (i'+(1:Int)))) else none else none
 else
  some ([.p (.bool true)],[]):=by kernel_rfl
def S17_111010 (acts':Int)(out_o out_l:Nat)(i':Int)(p_b0 p_b1 p_b2 out_b:List PV):St:=⟨.undef::(.p (.int .i64 acts'))::(.ptr 2 0 0)::.undef::.undef::(.slice 5 3 out_o out_l)::(.p (.int .i64 i'))::List.replicate 32 .undef,[(2,.box [.p (.list false [.str] p_b0),.p (.list true kV3 p_b1),.p (.list true kAc p_b2)]),(5,.arr true kV3 out_b)]⟩
theorem e17 (C:CallF) (p_0 p_1 p_2:List PV)(acts:Int):acallI tab C 17 [.p (.agg [.list false [.str] p_0,.list true kV3 p_1,.list true kAc p_2]),.p (.int .i64 acts)] [] =
 bif (acts==(0:Int)) then
  bif (leN p_1.length 2147483648) then some ([.fresh true kV3 ((p_1.drop 0).take p_1.length)],[]) else none
 else
  L tab C 17 [] [.lp [1,1,1,0,1,0]] (S17_111010 acts 0 0 0 p_0 p_1 p_2 []):=by kernel_rfl
theorem e17_111010 (C:CallF) (acts':Int)(out_o out_l:Nat)(i':Int)(p_b0 p_b1 p_b2 out_b:List PV):R tab C 17 [] [.lp [1,1,1,0,1,0]] (S17_111010 acts' out_o out_l i' p_b0 p_b1 p_b2 out_b) =
 bif ((leI (0:Int) (IntKind.i64.wrap (acts'-(1:Int))))&&(ltI (IntKind.i64.wrap (acts'-(1:Int))) ((p_b2.length:Nat):Int))) then bif (ltI i' (((((p_b2.getD ((IntKind.i64.wrap (acts'-(1:Int))).toNat) .nil).cell 2).toList).length:Nat):Int)) then
  bif ((leI (0:Int) (IntKind.i64.wrap (acts'-(1:Int))))&&(ltI (IntKind.i64.wrap (acts'-(1:Int))) ((p_b2.length:Nat):Int))) then bif ((leI (0:Int) i')&&(ltI i' (((((p_b2.getD ((IntKind.i64.wrap (acts'-(1:Int))).toNat) .nil).cell 2).toList).length:Nat):Int))) then bif (leN (out_l+1) 2147483648) then L tab C 17 [] [.lp [1,1,1,0,1,0]] (S17_111010 acts' 0 (out_l+1) (IntKind.i64.wrap (i'+(1:Int))) p_b0 p_b1 p_b2 (((out_b.drop out_o).take out_l)++([.agg [.int .i64 ((((((p_b2.getD ((IntKind.i64.wrap (acts'-(1:Int))).toNat) .nil).cell 2).toList).getD i'.toNat .nil).cell 0).toInt),.int .i64 ((((((p_b2.getD ((IntKind.i64.wrap (acts'-(1:Int))).toNat) .nil).cell 2).toList).getD i'.toNat .nil).cell 1).toInt),.int .i64 ((((((p_b2.getD ((IntKind.i64.wrap (acts'-(1:Int))).toNat) .nil).cell 2).toList).getD i'.toNat .nil).cell 2).toInt)]]:List PV))) else none else none else none
 else
  some ([.fresh true kV3 ((out_b.drop out_o).take out_l)],[]) else none:=by kernel_rfl
def S18_11010 (t' at_' a':Int)(p_b0 p_b1 p_b2:List PV):St:=⟨.undef::(.p (.int .i64 t'))::(.ptr 2 0 0)::.undef::.undef::.undef::.undef::(.p (.int .i64 at_'))::(.p (.int .i64 a'))::List.replicate 51 .undef,[(2,.box [.p (.list false [.str] p_b0),.p (.list true kV3 p_b1),.p (.list true kAc p_b2)])]⟩
theorem e18 (C:CallF) (p_0 p_1 p_2:List PV)(t:Int):acallI tab C 18 [.p (.agg [.list false [.str] p_0,.list true kV3 p_1,.list true kAc p_2]),.p (.int .i64 t)] [] =
 L tab C 18 [] [.lp [1,1,0,1,0]] (S18_11010 t 0 0 p_0 p_1 p_2):=by kernel_rfl
theorem e18_11010 (C:CallF) (t' at_' a':Int)(p_b0 p_b1 p_b2:List PV):R tab C 18 [] [.lp [1,1,0,1,0]] (S18_11010 t' at_' a' p_b0 p_b1 p_b2) =
 bif (ltI a' ((p_b2.length:Nat):Int)) then
  bif (geI t' (0:Int)) then
   bif ((leI (0:Int) a')&&(ltI a' ((p_b2.length:Nat):Int))) then bif (ltI t' (IntKind.i64.wrap (at_'+((p_b2.getD a'.toNat .nil).cell 1).toInt))) then
    some ([.p (.int .i64 a'),.p (.int .i64 at_'),.p (.int .i64 0)],[])
   else
    bif (a'==(IntKind.i64.wrap (((p_b2.length:Nat):Int)-(1:Int)))) then
     bif ((leI (0:Int) a')&&(ltI a' ((p_b2.length:Nat):Int))) then bif (t'==(IntKind.i64.wrap (at_'+((p_b2.getD a'.toNat .nil).cell 1).toInt))) then
      some ([.p (.int .i64 a'),.p (.int .i64 at_'),.p (.int .i64 0)],[])
     else
      bif ((leI (0:Int) a')&&(ltI a' ((p_b2.length:Nat):Int))) then L tab C 18 [] [.lp [1,1,0,1,0]] (S18_11010 t' (IntKind.i64.wrap (at_'+((p_b2.getD a'.toNat .nil).cell 1).toInt)) (IntKind.i64.wrap (a'+(1:Int))) p_b0 p_b1 p_b2) else none else none
    else
     bif ((leI (0:Int) a')&&(ltI a' ((p_b2.length:Nat):Int))) then L tab C 18 [] [.lp [1,1,0,1,0]] (S18_11010 t' (IntKind.i64.wrap (at_'+((p_b2.getD a'.toNat .nil).cell 1).toInt)) (IntKind.i64.wrap (a'+(1:Int))) p_b0 p_b1 p_b2) else none else none
  else
   some ([.p (.int .i64 0),.p (.int .i64 0),.p (.int .i64 3)],[])
 else
  some ([.p (.int .i64 0),.p (.int .i64 0),.p (.int .i64 3)],[]):=by kernel_rfl
def S19_1010 (name':ByteArray)(i':Int)(p_b0 p_b1 p_b2:List PV):St:=⟨.undef::(.p (.str name'))::(.ptr 2 0 0)::.undef::.undef::(.p (.int .i64 i'))::List.replicate 15 .undef,[(2,.box [.p (.list false [.str] p_b0),.p (.list true kV3 p_b1),.p (.list true kAc p_b2)])]⟩
theorem e19 (C:CallF) (p_0 p_1 p_2:List PV)(name:ByteArray):acallI tab C 19 [.p (.agg [.list false [.str] p_0,.list true kV3 p_1,.list true kAc p_2]),.p (.str name)] [] =
 L tab C 19 [] [.lp [1,0,1,0]] (S19_1010 name 0 p_0 p_1 p_2):=by kernel_rfl
theorem e19_1010 (C:CallF) (name':ByteArray)(i':Int)(p_b0 p_b1 p_b2:List PV):R tab C 19 [] [.lp [1,0,1,0]] (S19_1010 name' i' p_b0 p_b1 p_b2) =
 bif (ltI i' ((p_b0.length:Nat):Int)) then
  bif ((leI (0:Int) i')&&(ltI i' ((p_b0.length:Nat):Int))) then bif ((((p_b0.getD i'.toNat .nil).cell 0).toStr).toList==name'.toList) then
   some ([.p (.int .i64 i')],[])
  else
   L tab C 19 [] [.lp [1,0,1,0]] (S19_1010 name' (IntKind.i64.wrap (i'+(1:Int))) p_b0 p_b1 p_b2) else none
 else
  some ([.p (.int .i64 (-1))],[]):=by kernel_rfl
theorem e20 (C:CallF) (p_0 p_1 p_2:List PV)(a_0:ByteArray)(a_1:Int)(a_2:List PV):acallI tab C 20 [.p (.agg [.list false [.str] p_0,.list true kV3 p_1,.list true kAc p_2]),.p (.agg [.str a_0,.int .i64 a_1,.list true kMv a_2])] [] =
 (C 10 [.p (.agg [.list false [.str] p_0,.list true kV3 p_1,.list true kAc p_2])] []).bind fun r1 =>
 bif (!(r1.1.headD .undef).pv.toBool) then
  some ([.p (.agg [.nil,.nil,.nil]),.p (.int .i64 2)],[])
 else
  (C 32 [.p (.agg [.list false [.str] p_0,.list true kV3 p_1,.list true kAc p_2])] []).bind fun r2 =>
  (C 45 [.p (.list true kMv a_2)] []).bind fun r3 =>
  bif (leN ((r2.1.headD .undef).aggList.length+1) 2147483648) then(C 10 [.p (.agg [.list false [.str] (((r2.1.headD .undef).aggPv.cell 0).toList),.list true kV3 (((r2.1.headD .undef).aggPv.cell 1).toList),.list true kAc (((((((r2.1.headD .undef).aggList).drop 0).take ((r2.1.headD .undef).aggList.length))++([.agg [.str a_0,.int .i64 a_1,.list true kMv ((r3.1.headD .undef).pv.toList)]]:List PV)).drop 0).take ((r2.1.headD .undef).aggList.length+1))])] []).bind fun r4 =>
  bif (!(r4.1.headD .undef).pv.toBool) then
   some ([.p (.agg [.nil,.nil,.nil]),.p (.int .i64 10)],[])
  else
   some ([.p (.agg [.list false [.str] (((r2.1.headD .undef).aggPv.cell 0).toList),.list true kV3 (((r2.1.headD .undef).aggPv.cell 1).toList),.list true kAc (((((((r2.1.headD .undef).aggList).drop 0).take ((r2.1.headD .undef).aggList.length))++([.agg [.str a_0,.int .i64 a_1,.list true kMv ((r3.1.headD .undef).pv.toList)]]:List PV)).drop 0).take ((r2.1.headD .undef).aggList.length+1))]),.p (.int .i64 0)],[]) else none:=by kernel_rfl
def S23_111010 (n_':Int)(t11':List PV)(t12' t13':Int):St:=⟨.undef::.undef::.undef::.undef::(.p (.int .i64 n_'))::.undef::.undef::.undef::.undef::.undef::.undef::(.p (.list true kAc t11'))::(.p (.int .i64 t12'))::(.p (.int .i64 t13'))::List.replicate 9 .undef,[]⟩
theorem e23 (C:CallF) (p_0 p_1 p_2:List PV):acallI tab C 23 [.p (.agg [.list false [.str] p_0,.list true kV3 p_1,.list true kAc p_2])] [] =
 (C 10 [.p (.agg [.list false [.str] p_0,.list true kV3 p_1,.list true kAc p_2])] []).bind fun r1 =>
 bif (!(r1.1.headD .undef).pv.toBool) then
  some ([.p (.int .i64 0),.p (.int .i64 2)],[])
 else
  L tab C 23 [] [.lp [1,1,1,0,1,0]] (S23_111010 0 p_2 ((p_2.length:Nat):Int) 0):=by kernel_rfl
theorem e23_111010 (C:CallF) (n_':Int)(t11':List PV)(t12' t13':Int):R tab C 23 [] [.lp [1,1,1,0,1,0]] (S23_111010 n_' t11' t12' t13') =
 bif (ltI t13' t12') then
  bif ((leI (0:Int) t13')&&(ltI t13' ((t11'.length:Nat):Int))) then L tab C 23 [] [.lp [1,1,1,0,1,0]] (S23_111010 (IntKind.i64.wrap (n_'+((t11'.getD t13'.toNat .nil).cell 1).toInt)) t11' t12' (IntKind.i64.wrap (t13'+(1:Int)))) else none
 else
  some ([.p (.int .i64 n_'),.p (.int .i64 0)],[]):=by kernel_rfl
theorem e24 (C:CallF) (p_0 p_1 p_2:List PV)(aircraft:Int):acallI tab C 24 [.p (.agg [.list false [.str] p_0,.list true kV3 p_1,.list true kAc p_2]),.p (.int .i64 aircraft)] [] =
 (C 10 [.p (.agg [.list false [.str] p_0,.list true kV3 p_1,.list true kAc p_2])] []).bind fun r1 =>
 bif (!(r1.1.headD .undef).pv.toBool) then
  some ([.p (.list true kSg []),.p (.int .i64 2)],[])
 else
  bif (ltI aircraft (0:Int)) then
   some ([.p (.list true kSg []),.p (.int .i64 3)],[])
  else
   bif (geI aircraft ((p_0.length:Nat):Int)) then
    some ([.p (.list true kSg []),.p (.int .i64 3)],[])
   else
    bif (((p_2.length:Nat):Int)==(0:Int)) then
     some ([.p (.list true kSg []),.p (.int .i64 9)],[])
    else
     (C 47 [.p (.agg [.list false [.str] p_0,.list true kV3 p_1,.list true kAc p_2])] []).bind fun r2 =>
     bif ((leI (0:Int) aircraft)&&(ltI aircraft (((r2.1.headD .undef).freshList.length:Nat):Int))) then some ([.p (.list true kSg (((((r2.1.headD .undef).freshList).getD (0+aircraft.toNat) .nil).cell 0).toList)),.p (.int .i64 0)],[]) else none:=by kernel_rfl
end Go.Skm.Prg
