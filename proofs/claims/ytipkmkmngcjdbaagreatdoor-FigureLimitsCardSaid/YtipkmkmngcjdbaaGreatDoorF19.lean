/-
  Figures moved and compared, by the program and by the document; condition: the library's answers, figures that fit.
-/
import Derived.Test.YtipkmkmngcjdbaaGreatDoorF18
import Derived.Test.YtipkmkmngcjdbaaGreatDoorF12
namespace Go.Skm.Fig
open Go Go.Skm
def addV (a b:V3):V3:=⟨a.x+b.x,a.y+b.y,a.z+b.z⟩
def movS (b:V3) (s:Sh):Sh:={ s with c:=s.c.map fun v=>addV v b }
def okM (b:V3) (l:List V3):Bool:=l.all fun v=>pnt (addV v b)
def movG (b:V3):List Sh→List Sh→List Sh × Int
 | acc,[]=>(acc,0)
 | acc,s::r=>if okM b s.c=true then movG b (acc++[movS b s]) r else([],3)
def movR (f:List Sh) (b:V3):List Sh × Int:=if figB f=true∧inM 16777216 b=true then movG b [] f else([],2)
def Clones48 (X:Ext):Prop:=∀ l:List V3,l.length≤100000→run tab X 48 [.p (.list true kV (encL l))] []=some ([.fresh true kV (encL l)],[])
section
variable (X:Ext) (hX:Mine X)
include hX
theorem c25 (x y z:Int):run tab X 25 [.p (.int .i64 x),.p (.int .i64 y),.p (.int .i64 z)] []=some ([.p (encV ⟨x,y,z⟩)],[]):=run_of (hX _ rfl) (by rw[e25];rfl)
theorem c86 {x y:Int} (h1:-9223372036854775808≤x+y) (h2:x+y≤9223372036854775807):run tab X 86 [.p (.int .i64 x),.p (.int .i64 y)] []=some ([.p (.int .i64 (x+y))],[]) :=
 run_of (hX _ rfl) (by rw[e86,wrap_eq h1 h2])
theorem c85a {a b:V3} (ha:inM 16777216 a=true) (hb:inM 16777216 b=true):run tab X 85 [.p (encV a),.p (encV b),.p (.fn 86 [])] []=some ([.p (encV (addV a b))],[]):=by
 obtain⟨h1,h2,h3⟩:=inM_iff.1 ha
 obtain⟨g1,g2,g3⟩:=inM_iff.1 hb
 refine run_of (hX _ rfl) ?_
 rw[encV,encV,e85a]
 refine bindS (c86 X hX (by omega) (by omega)) (bindS (c86 X hX (by omega) (by omega)) (bindS (c86 X hX (by omega) (by omega)) ?_))
 rfl
theorem c84 (v:V3):run tab X 84 [.p (encV v)] []=some (if inM 16777216 v=true then [.p (encV v),.p (.int .i64 0)] else [.p (encV ⟨0,0,0⟩),.p (.int .i64 3)],[]):=by
 refine run_of (hX _ rfl) ?_
 rw[encV,e84]
 refine bindS (c47 X hX v) ?_
 simp only[List.headD_cons,pv_p,toBool_bool,condO]
 cases inM 16777216 v<;>rfl
theorem c49 {a b:V3} (ha:inM 16777216 a=true) (hb:inM 16777216 b=true):run tab X 49 [.p (encV a),.p (encV b)] []=some (if inM 16777216 (addV a b)=true then [.p (encV (addV a b)),.p (.int .i64 0)] else [.p (encV ⟨0,0,0⟩),.p (.int .i64 3)],[]):=by
 refine run_of (hX _ rfl) ?_
 rw[encV,encV,e49]
 refine bindS (c47 X hX a) ?_
 simp only[List.headD_cons,pv_p,toBool_bool,ha,Bool.not_true,cond_false]
 refine bindS (c47 X hX b) ?_
 simp only[List.headD_cons,pv_p,toBool_bool,hb,Bool.not_true,cond_false]
 refine bindS (c85a X hX ha hb) ?_
 refine bindS (c84 X hX (addV a b)) ?_
 cases inM 16777216 (addV a b)<;>rfl
theorem pnt_wide {v:V3} (h:pnt v=true):inM 16777216 v=true:=by
 have _:=hX
 have:=pnt_in h
 exact inM_iff.2 ⟨⟨by omega,by omega⟩,⟨by omega,by omega⟩,by omega,by omega⟩
theorem l22b (b : V3) (hb : inM 16777216 b = true) (f : List PV) (n0 i : Int) (acc : List PV) (k m r s p : Int) (c : List V3) (hc : allP c = true) (hl : c.length ≤ 200) (ha : acc.length ≤ 1000) {res : List AV × List Blk}
    (hn:L tab (run tab X) 22 [] [.lp [1,1,1,0,1,0]] (S22_111010 0 (acc.length+1) f n0 (IntKind.i64.wrap (i+1)) b.x b.y b.z (acc++[eS ⟨k,c.map (fun v=>addV v b),m,r,s,p⟩]))=some res) :
    ∀ (n j:Nat),j+n=c.length →
    L tab (run tab X) 22 [] [.lp [1,1,1,0,1,0],.lp [1,1,0,0,1,1,0,1,0]] (S22_111010_110011010 0 acc.length f n0 i 0 c.length c.length j b.x b.y b.z acc k 0 c.length m r s p (encL ((c.take j).map (fun v=>addV v b)++c.drop j))) =
     some (if okM b (c.drop j)=true then res else([.fresh true kS [],.p (.int .i64 3)],[])):=by
  intro n
  induction n with
  | zero =>
   intro j hj
   refine L_of ?_
   rw[e22_111010_110011010]
   refine condNP (show ¬ (j:Int)<(c.length:Int) by omega) ?_
   rw[List.drop_eq_nil_of_le (show c.length≤j by omega),List.take_of_length_le (show c.length≤j by omega),List.append_nil]
   refine condP (p:=acc.length+1≤2147483648) (by omega) ?_
   rw[List.drop_zero,List.drop_zero,List.take_of_length_le (Nat.le_refl _),List.take_of_length_le (by simp)]
   exact hn
  | succ n ih =>
   intro j hj
   have hlt:j<c.length:=by omega
   have hp:=allP_iff.1 hc c[j] (List.getElem_mem hlt)
   have hg:((c.take j).map (fun v=>addV v b)++c.drop j).getD j default=c[j]:=by
    rw[List.getD_eq_getElem?_getD,List.getElem?_append_right (by simp;omega)]
    simp[Nat.min_eq_left (Nat.le_of_lt hlt),hlt]
   have w1:IntKind.i64.wrap ((j:Int)+1)=((j+1:Nat):Int):=by rw[wrap_eq (by omega) (by omega)];omega
   refine L_of ?_
   rw[e22_111010_110011010,w1]
   refine condP (show (j:Int)<(c.length:Int) by omega) ?_
   have hr:(leI (0:Int) (j:Int)&&ltI (j:Int) ((c.length:Nat):Int))=true:=by simp;omega
   rw[hr]
   simp only[Int.toNat_natCast,Nat.zero_add,encL_x,encL_y,encL_z,hg,cond_true]
   refine bindS (c49 X hX (pnt_wide X hX hp) hb) ?_
   rw[List.drop_eq_getElem_cons hlt]
   have eok:okM b (c[j]::c.drop (j+1))=(pnt (addV c[j] b)&&okM b (c.drop (j+1))):=rfl
   rw[eok]
   cases hw:inM 16777216 (addV c[j] b) with
   | false =>
    have hnp:pnt (addV c[j] b)=false:=by
     cases h:pnt (addV c[j] b) with
     | false=>rfl
     | true=>rw[pnt_wide X hX h]at hw;cases hw
    rw[hnp]
    rfl
   | true =>
    simp only[if_true,List.headD_cons,List.tail_cons,pv_p,toInt_int]
    refine condF (c:=((0:Int) != 0)) rfl ?_
    refine bindS (c31 X hX (addV c[j] b)) ?_
    simp only[List.headD_cons,pv_p,toBool_bool,condO]
    cases hq:pnt (addV c[j] b) with
    | false =>
     rw[show inM 1048576 (addV c[j] b)=false from hq]
     rfl
    | true =>
     rw[show inM 1048576 (addV c[j] b)=true from hq]
     simp only[cond_true,Bool.true_and]
     have:=ih (j+1) (by omega)
     rw[← this]
     congr 2
     show (encL _).set j (encV (addV c[j] b))=_
     rw[encL_set]
     congr 1
     rw[List.take_succ_eq_append_getElem hlt,List.map_append,List.map_cons,List.map_nil,List.append_assoc]
     have h1:((c.take j).map fun v=>addV v b).length=j:=by simp;omega
     rw[List.set_append,if_neg (by rw[h1];omega),h1,Nat.sub_self,List.set_cons_zero]
     rfl
theorem l22 (hK : Clones48 X) (b : V3) (hb : inM 16777216 b = true) (f : List Sh) (hf : f.length ≤ 50) (hs : ∀ s ∈ f,Shape s) : ∀ (n i : Nat) (acc : List Sh),i + n = f.length → acc.length = i →
    L tab (run tab X) 22 [] [.lp [1,1,1,0,1,0]] (S22_111010 0 acc.length (encF f) f.length i b.x b.y b.z (encF acc))=some ([.fresh true kS (encF (movG b acc (f.drop i)).1),.p (.int .i64 (movG b acc (f.drop i)).2)],[]):=by
  intro n
  induction n with
  | zero =>
   intro i acc hi ha
   refine L_of ?_
   rw[e22_111010]
   refine condNP (show ¬ (i:Int)<(f.length:Int) by omega) ?_
   rw[List.drop_eq_nil_of_le (show f.length≤i by omega),List.drop_zero,List.take_of_length_le (by simp)]
   rfl
  | succ n ih =>
   intro i acc hi ha
   have hlt:i<f.length:=by omega
   have h1:=hs _ (sat_mem hlt)
   have w1:IntKind.i64.wrap ((i:Int)+1)=((i+1:Nat):Int):=by rw[wrap_eq (by omega) (by omega)];omega
   refine L_of ?_
   rw[e22_111010]
   refine condP (show (i:Int)<(f.length:Int) by omega) ?_
   have hr:(leI (0:Int) (i:Int)&&ltI (i:Int) (((encF f).length:Nat):Int))=true:=by simp;omega
   rw[hr,Int.toNat_natCast,encF_getD f hlt]
   simp only[cond_true,cell_agg,List.getD_cons_zero,List.getD_cons_succ,toList_list,toInt_int]
   refine bindS (hK (sat f i).c (by have:=h1.1;omega)) ?_
   simp only[List.headD_cons,freshList_fresh,encL_length]
   rw[sdrop hlt]
   have hnext:=ih (i+1) (acc++[movS b (sat f i)]) (by omega) (by simp[ha])
   have:=l22b X hX b hb (encF f) f.length i (encF acc) (sat f i).k (sat f i).m (sat f i).r (sat f i).s (sat f i).p (sat f i).c h1.2.1 h1.1 (by simp;omega) (res:=([.fresh true kS (encF (movG b (acc++[movS b (sat f i)]) (f.drop (i+1))).1),.p (.int .i64 (movG b (acc++[movS b (sat f i)]) (f.drop (i+1))).2)],[])) (by
    rw[w1,← hnext]
    congr 1
    simp[encF,movS]) (sat f i).c.length 0 (by omega)
   simp only[List.take_zero,List.map_nil,List.nil_append,List.drop_zero,encF_length]at this
   refine Eq.trans this ?_
   rw[movG]
   split<;>rfl
theorem c22 (hK:Clones48 X) (f:List Sh) (hf:Fits f) (b:V3):run tab X 22 [.p (.list true kS (encF f)),.p (encV b)] []=some ([.fresh true kS (encF (movR f b).1),.p (.int .i64 (movR f b).2)],[]):=by
 refine run_of (hX _ rfl) ?_
 rw[encV,e22]
 refine bindS (c28 X hX f hf) ?_
 simp only[List.headD_cons,pv_p,toBool_bool,condO]
 unfold movR
 cases hb:figB f with
 | false=>rfl
 | true =>
  simp only[cond_true]
  refine bindS (c47 X hX b) ?_
  simp only[List.headD_cons,pv_p,toBool_bool]
  cases hm:inM 16777216 b with
  | false=>rfl
  | true =>
   obtain⟨h1,h2⟩:=fig_shapes hb
   simp only[cond_true,and_self,if_true,encF_length]
   exact l22 X hX hK b hm f h1 h2 f.length 0 [] (by omega) rfl
theorem l21 (a b : List Sh) (hf : Fits a) (hl : a.length = b.length) : ∀ (n i : Nat),i + n = a.length → a.take i = b.take i →
    L tab (run tab X) 21 [] [.lp [1,1,0,1,0]] (S21_11010 (encF a) (encF b) i)=some ([.p (.bool (decide (a=b)))],[]):=by
  have ne:∀ i,i<a.length→sat a i≠sat b i→some ([AV.p (.bool false)],([]:List Blk))=some ([.p (.bool (decide (a=b)))],[]):=by
   intro i hi h
   rw[decide_eq_false fun e=>h (by rw[e])]
  intro n
  induction n with
  | zero =>
   intro i hi ht
   refine L_of ?_
   rw[e21_11010,encF_length]
   refine condNP (show ¬ (i:Int)<(a.length:Int) by omega) ?_
   rw[List.take_of_length_le (by omega),List.take_of_length_le (by omega)]at ht
   simp[ht]
  | succ n ih =>
   intro i hi ht
   have h1:i<a.length:=by omega
   have h2:i<b.length:=by omega
   have w1:IntKind.i64.wrap ((i:Int)+1)=((i+1:Nat):Int):=by rw[wrap_eq (by have:=hf.1;omega) (by have:=hf.1;omega)];omega
   refine L_of ?_
   rw[e21_11010,w1]
   have hr:(leI (0:Int) (i:Int)&&ltI (i:Int) (((encF a).length:Nat):Int))=true:=by simp;omega
   have hr2:(leI (0:Int) (i:Int)&&ltI (i:Int) (((encF b).length:Nat):Int))=true:=by simp;omega
   refine condP (show (i:Int)<(((encF a).length:Nat):Int) by simp;omega) ?_
   rw[hr,hr2,Int.toNat_natCast,encF_getD a h1,encF_getD b h2]
   simp only[cond_true,cell_agg,List.getD_cons_zero,List.getD_cons_succ,toList_list,toInt_int,condN]
   have nope:=ne i h1
   refine iteK (fun e1=>?_) fun h=>nope fun e=>h (by rw[e])
   refine iteK (fun e2=>?_) fun h=>nope fun e=>h (by rw[e])
   refine iteK (fun e3=>?_) fun h=>nope fun e=>h (by rw[e])
   refine iteK (fun e4=>?_) fun h=>nope fun e=>h (by rw[e])
   refine iteK (fun e5=>?_) fun h=>nope fun e=>h (by rw[e])
   refine bindS (c16 X hX (sat a i).c (sat b i).c (hf.2 _ (sat_mem h1))) ?_
   simp only[List.headD_cons,pv_p,toBool_bool,condO,condD]
   refine iteK (fun e6=>?_) fun h=>nope fun e=>h (by rw[e])
   have es:sat a i=sat b i:=by
    cases ha:sat a i;cases hb:sat b i
    rw[ha,hb]at e1 e2 e3 e4 e5 e6
    simp only at e1 e2 e3 e4 e5 e6
    subst e1 e2 e3 e4 e5 e6;rfl
   refine ih (i+1) (by omega) ?_
   rw[List.take_succ_eq_append_getElem h1,List.take_succ_eq_append_getElem h2,ht,← sat_eq h1,← sat_eq h2,es]
theorem c21 (a b:List Sh) (hf:Fits a):run tab X 21 [.p (.list true kS (encF a)),.p (.list true kS (encF b))] []=some ([.p (.bool (decide (a=b)))],[]):=by
 refine run_of (hX _ rfl) ?_
 rw[e21,encF_length,encF_length,condN]
 by_cases hl:a.length=b.length
 · rw[if_pos (by omega)]
   exact l21 X hX a b hf hl a.length 0 (by omega) (by simp)
 · rw[if_neg (by omega),decide_eq_false fun e=>hl (by rw[e])]
end
end Go.Skm.Fig
