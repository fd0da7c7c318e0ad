/-
  The parts of a text between a byte, by the document; condition: lengths that fit.
-/
import Derived.Test.YtipkmkmngcjdbaaGreatDoorF21
namespace Go.Skm.Fig
open Go Go.Skm
theorem ba_getD (l:List UInt8) (i:Nat):(ba l).data.getD i 0=l.getD i 0:=by
 show l.toArray.getD i 0=_
 rw[Array.getD_eq_getD_getElem?,List.getElem?_toArray,List.getD_eq_getElem?_getD]
def addI (a:Int) (x:UInt8):Int:=10*a+((x.toNat:Int)-48)
def accI:Int→List UInt8→Int
 | a,[]=>a
 | a,x::r=>accI (addI a x) r
theorem accI_app:∀ (xs ys:List UInt8) (a:Int),accI a (xs++ys)=accI (accI a xs) ys
 | [],_,_=>rfl
 | x::xs,ys,a=>by rw[List.cons_append,accI,accI,accI_app xs ys]
theorem accI_dec {u:Nat}:accI 0 (Lib.decDigits u)=u:=by
 induction u using Nat.strongRecOn with
 | ind u ih =>
  rw[Lib.decDigits]
  split
  · next h =>
    simp only[accI,addI,digit_toNat h];omega
  · next h =>
    rw[accI_app,ih (u / 10) (by omega)]
    simp only[accI,addI,digit_toNat (show u%10<10 by omega)]
    omega
theorem ba_cut (l:List UInt8) {i:Nat} (h:i<l.length):(ba l).extract i (i+1)=ba [l[i]]:=by
 rw[ba_eq]
 simp[ba,ByteArray.data_extract,List.extract_eq_take_drop]
 rw[List.drop_eq_getElem_cons h];rfl
section
variable (X:Ext) (hX:Mine X)
include hX
omit hX in
theorem c45_loop (c : UInt8) (l : List UInt8) (hl : l.length ≤ 1000000000) : ∀ (d i : Nat) (done : List (List UInt8)) (cur : List UInt8),i + d = l.length → done.length + cur.length ≤ i → c ∉ cur →
    L tab (run tab X) 45 [] [.lp [1,1,0,1,0]] (S45_11010 (ba l) ((c.toNat:Nat):Int) 0 (done.length+1) i ((done++[cur]).map fun p=>.str (ba p)))=some ([.fresh false [.str] ((done++splitC c (cur++l.drop i)).map fun p=>.str (ba p))],[]):=by
  intro d
  induction d with
  | zero =>
   intro i done cur hi hb hc
   refine L_of ?_
   rw[e45_11010]
   simp only[condD,ba_size]
   rw[if_neg (by omega),List.drop_eq_nil_of_le (show l.length≤i by omega),List.append_nil,splitC_none hc,List.drop_zero,List.take_of_length_le (by simp)]
  | succ d ih =>
   intro i done cur hi hb hc
   have hlt:i<l.length:=by omega
   have hg:l.getD i 0=l[i]:=by simp[List.getD_eq_getElem?_getD,hlt]
   have w:IntKind.i64.wrap ((i:Int)+1)=((i+1:Nat):Int):=by rw[wrap_eq (by omega) (by omega)];omega
   have w2:IntKind.i64.wrap (((done.length+1:Nat):Int)-1)=((done.length:Nat):Int):=by rw[wrap_eq (by omega) (by omega)];omega
   have hcur:((((done++[cur]).map fun p=>PV.str (ba p)).getD (0+done.length) .nil).cell 0).toStr=ba cur:=by
    rw[Nat.zero_add,List.getD_eq_getElem?_getD,List.getElem?_map,List.getElem?_append_right (Nat.le_refl _),Nat.sub_self];rfl
   rw[List.drop_eq_getElem_cons hlt]
   refine L_of ?_
   rw[e45_11010]
   simp only[condD,condA,condE,ba_size,ba_getD,Int.toNat_natCast,hg,w,w2,hcur,ba_cut l hlt,ba_append]
   rw[if_pos (by omega),if_pos (by omega),if_pos (by omega)]
   by_cases e:((l[i]).toNat:Int)=((c.toNat:Nat):Int)
   · have e' : l[i] = c := by
       apply UInt8.toNat_inj.1
       omega
     refine iteP e ?_
     rw[if_pos (by omega),e',splitC_app _ hc,List.drop_zero,List.take_of_length_le (by simp)]
     have:=ih (i+1) (done++[cur]) [] (by omega) (by simp;omega) (by simp)
     simp only[List.length_append,List.length_cons,List.length_nil,List.nil_append]at this
     simp only[List.map_append,List.map_cons,List.map_nil,List.append_assoc,List.cons_append,List.nil_append]at this ⊢
     exact this
   · have e':l[i]≠c:=fun h=>e (by rw[h])
     refine iteN e ?_
     rw[if_pos (by omega),if_pos (by omega),if_pos (by omega),if_pos (by omega),if_pos (by omega)]
     refine iteP (by simp;omega) ?_
     rw[if_pos (by omega),if_pos (by omega)]
     have:=ih (i+1) done (cur++[l[i]]) (by omega) (by simp;omega) (by simp[hc,Ne.symm e'])
     have hs:(((done++[cur]).map fun p=>PV.str (ba p)).set (0+done.length) (.str (ba (cur++[l[i]]))))=(done++[cur++[l[i]]]).map fun p=>PV.str (ba p):=by
      rw[Nat.zero_add,List.map_append,List.set_append_right _ _ (by simp)]
      simp
     rw[hs]
     rw[List.append_assoc,List.singleton_append]at this
     exact this
theorem c45 (c:UInt8) (l:List UInt8) (hl:l.length≤1000000000):run tab X 45 [.p (.str (ba l)),.p (.int .u8 ((c.toNat:Nat):Int))] []=some ([.fresh false [.str] ((splitC c l).map fun p=>.str (ba p))],[]) :=
 run_of (hX _ rfl) (by
  rw[e45]
  exact c45_loop X c l hl l.length 0 [] [] (by omega) (by simp) (by simp))
end
end Go.Skm.Fig
