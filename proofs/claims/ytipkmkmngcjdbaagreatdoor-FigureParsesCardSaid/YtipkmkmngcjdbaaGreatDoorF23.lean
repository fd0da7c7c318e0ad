/-
  The document's number: what the first nine bytes say, and whether its text is the given one; condition: a length that fits.
-/
import Derived.Test.YtipkmkmngcjdbaaGreatDoorF22
namespace Go.Skm.Fig
open Go Go.Skm
theorem wrap8 {x:Int} (h0:0≤x) (h1:x<256):IntKind.u8.wrap x=x:=by
 have:∀ y:Int,y=x%2 ^ 8→(if(false&&decide (y ≥ 2 ^ (8-1)))=true then y-2 ^ 8 else y)=x:=by
  intro y hy
  rw[if_neg (by simp)];omega
 exact this _ rfl
def digB (x:UInt8):Bool:=decide (48≤x.toNat)&&decide (x.toNat≤57)
def numN:Int→List UInt8→Int
 | a,[]=>a
 | a,x::r=>numN (if digB x=true then addI a x else a) r
def sgnI (b:Bool) (n:Int):Int:=if b=true then -n else n
def negB:List UInt8→Bool
 | x::_=>decide (x.toNat=45)
 | []=>false
def numR (l:List UInt8):Int:=sgnI (negB l) (numN 0 (l.take 9))
section
variable (X:Ext) (hX:Mine X)
include hX
theorem fin83 (l : List UInt8) (neg : Bool) (n : Int) (h0 : 0 ≤ n) (h1 : n < 1000000000) :
    (bif neg then
      (run tab X 77 [.p (.int .i64 (IntKind.i64.wrap (0-n)))] []).bind fun r1 =>
        some (([AV.p (.int .i64 (IntKind.i64.wrap (0-n))),.p (.bool (((r1.1.headD .undef).pv.toStr).toList==(ba l).toList))]:List AV),([]:List Blk))
      else
       (run tab X 77 [.p (.int .i64 n)] []).bind fun r2 =>
       some (([AV.p (.int .i64 n),.p (.bool (((r2.1.headD .undef).pv.toStr).toList==(ba l).toList))]:List AV),([]:List Blk)))
      = some (([AV.p (.int .i64 (sgnI neg n)),.p (.bool (decide (Lib.itoa (sgnI neg n)=l)))]:List AV),([]:List Blk)):=by
  cases neg
  · refine bindS (c77 X hX n (by omega) (by omega)) ?_
    simp only[List.headD_cons,pv_p,toStr_str,ba_beq,ba_inj,sgnI];rfl
  · have e:IntKind.i64.wrap (0-n)=-n:=by rw[wrap_eq (by omega) (by omega)];omega
    rw[e]
    refine bindS (c77 X hX (-n) (by omega) (by omega)) ?_
    simp only[List.headD_cons,pv_p,toStr_str,ba_beq,ba_inj,sgnI];rfl
theorem c83_loop (l : List UInt8) (hl : l.length ≤ 100000000) (neg : Bool) : ∀ (d i : Nat) (n : Int),i + d = min l.length 9 → 0 ≤ n → n < (10 : Int) ^ i →
    L tab (run tab X) 83 [] [.lp [1,1,0,1,0]] (S83_11010 (ba l) n neg i)=some ([.p (.int .i64 (sgnI neg (numN n ((l.take 9).drop i)))),.p (.bool (decide (Lib.itoa (sgnI neg (numN n ((l.take 9).drop i)))=l)))],[]):=by
  intro d
  induction d with
  | zero =>
   intro i n hi h0 h1
   have hp:(10:Int) ^ i≤10 ^ 9:=by exact_mod_cast Nat.pow_le_pow_right (show 0<10 by decide) (show i≤9 by omega)
   refine L_of ?_
   rw[e83_11010]
   rw[List.drop_eq_nil_of_le (show (l.take 9).length≤i by rw[List.length_take];omega)]
   by_cases h:(i:Int)<(((ba l).size:Nat):Int)
   · refine condP h (condNP (by rw[ba_size]at h;omega) ?_)
     exact fin83 X hX l neg n h0 (by omega)
   · refine condNP h ?_
     exact fin83 X hX l neg n h0 (by omega)
  | succ d ih =>
   intro i n hi h0 h1
   have hp:(10:Int) ^ i≤10 ^ 8:=by exact_mod_cast Nat.pow_le_pow_right (show 0<10 by decide) (show i≤8 by omega)
   have hs:(10:Int) ^ (i+1)=10 ^ i*10:=Int.pow_succ 10 i
   have hlt:i<l.length:=by omega
   have hg:l.getD i 0=l[i]:=by simp[List.getD_eq_getElem?_getD,hlt]
   have w:IntKind.i64.wrap ((i:Int)+1)=((i+1:Nat):Int):=by rw[wrap_eq (by omega) (by omega)];omega
   have hd:(l.take 9).drop i=l[i]::(l.take 9).drop (i+1):=by
    rw[List.drop_eq_getElem_cons (by rw[List.length_take];omega),List.getElem_take]
   rw[hd,numN]
   refine L_of ?_
   rw[e83_11010]
   simp only[condD,condA,ba_size,ba_getD,Int.toNat_natCast,hg,w]
   have hb:=l[i].toNat_lt
   rw[if_pos (by omega),if_pos (by omega),if_pos (by omega),if_pos (by omega)]
   by_cases ha:(48:Int)≤((l[i]).toNat:Int)
   · refine iteP ha ?_
     rw[if_pos (by omega),if_pos (by omega)]
     by_cases hc:((l[i]).toNat:Int)≤57
     · have hdg:digB l[i]=true:=by unfold digB;simp;omega
       refine iteP hc ?_
       rw[if_pos (by omega),if_pos (by omega),if_pos hdg]
       have e1:IntKind.u8.wrap (((l[i]).toNat:Int)-48)=((l[i]).toNat:Int)-48:=by
        exact wrap8 (by omega) (by omega)
       have e2:IntKind.i64.wrap (IntKind.i64.wrap (10*n)+IntKind.i64.wrap (((l[i]).toNat:Int)-48))=addI n l[i]:=by
        unfold addI
        rw[wrap_eq (x:=10*n) (by omega) (by omega),wrap_eq (x:=((l[i]).toNat:Int)-48) (by omega) (by omega),wrap_eq (by omega) (by omega)]
       rw[e1,e2]
       exact ih (i+1) (addI n l[i]) (by omega) (by unfold addI;omega) (by unfold addI;omega)
     · have hdg:¬ digB l[i]=true:=by unfold digB;simp;omega
       refine iteN hc ?_
       rw[if_neg hdg]
       exact ih (i+1) n (by omega) h0 (by omega)
   · have hdg:¬ digB l[i]=true:=by unfold digB;simp;omega
     refine iteN ha ?_
     rw[if_neg hdg]
     exact ih (i+1) n (by omega) h0 (by omega)
theorem c83 (l:List UInt8) (hl:l.length≤100000000):run tab X 83 [.p (.str (ba l))] []=some ([.p (.int .i64 (numR l)),.p (.bool (decide (Lib.itoa (numR l)=l)))],[]) :=
 run_of (hX _ rfl) (by
  rw[e83]
  cases l with
  | nil=>exact condNP (by rw[ba_size];simp) (c83_loop X hX [] hl false 0 0 0 (by simp) (by omega) (by simp))
  | cons x r =>
   refine condP (by rw[ba_size];simp) (condP (by rw[ba_size];simp) ?_)
   have:=c83_loop X hX (x::r) hl (decide (x.toNat=45)) (min (x::r).length 9) 0 0 (by simp) (by omega) (by simp)
   have e:(((((ba (x::r)).data.getD 0 0).toNat:Nat):Int)==(45:Int))=decide (x.toNat=45):=by
    rw[ba_getD,List.getD_cons_zero,Bool.eq_iff_iff];simp;omega
   rw[e]
   exact this)
end
end Go.Skm.Fig
