/-
  Figures moved and compared, by the program and by the document; condition: the library's answers, figures that fit.
-/
import Derived.Test.YtipkmkmngcjdbaaGreatDoorF18
import Derived.Test.YtipkmkmngcjdbaaGreatDoorF11
namespace Go.Skm.Fig
open Go Go.Skm
def gV (a b:V3):V3:=⟨a.x+b.x,a.y+b.y,a.z+b.z⟩
def xW (b:V3) (s:Sh):Sh:={ s with c:=s.c.map fun v=>gV v b }
def YQ (b:V3) (l:List V3):Bool:=l.all fun v=>vU (gV v b)
def sO (b:V3):List Sh→List Sh→List Sh × Int
 | acc,[]=>(acc,0)
 | acc,s::r=>if YQ b s.c=true then sO b (acc++[xW b s]) r else([],3)
def qK (f:List Sh) (b:V3):List Sh × Int:=if uV f=true∧oM 16777216 b=true then sO b [] f else([],2)
def EC (X:Ext):Prop:=∀ l:List V3,l.length≤100000→run tab X 48 [.p (.list true kV (bJ l))] []=some ([.fresh true kV (bJ l)],[])
section
variable (X:Ext) (hX:Mine X)
include hX
theorem c25 (x y z:Int):run tab X 25 [.p (.int .i64 x),.p (.int .i64 y),.p (.int .i64 z)] []=some ([.p (fB ⟨x,y,z⟩)],[]):=bK (hX _ rfl) (by rw[e25];rfl)
theorem c86 {x y:Int} (h1:-9223372036854775808≤x+y) (h2:x+y≤9223372036854775807):run tab X 86 [.p (.int .i64 x),.p (.int .i64 y)] []=some ([.p (.int .i64 (x+y))],[]) :=
 bK (hX _ rfl) (by rw[e86,wrap_eq h1 h2])
theorem ai1 {a b:V3} (ha:oM 16777216 a=true) (hb:oM 16777216 b=true):run tab X 85 [.p (fB a),.p (fB b),.p (.fn 86 [])] []=some ([.p (fB (gV a b))],[]):=by
 obtain⟨h1,h2,h3⟩:=tV.1 ha
 obtain⟨g1,g2,g3⟩:=tV.1 hb
 refine bK (hX _ rfl) ?_
 rw[fB,fB,aiM]
 refine aW (c86 X hX (by omega) (by omega)) (aW (c86 X hX (by omega) (by omega)) (aW (c86 X hX (by omega) (by omega)) ?_))
 rfl
theorem c84 (v:V3):run tab X 84 [.p (fB v)] []=some (if oM 16777216 v=true then [.p (fB v),.p (.int .i64 0)] else [.p (fB ⟨0,0,0⟩),.p (.int .i64 3)],[]):=by
 refine bK (hX _ rfl) ?_
 rw[fB,e84]
 refine aW (c47 X hX v) ?_
 simp only[List.headD_cons,iP,bF,Ah]
 cases oM 16777216 v<;>rfl
theorem c49 {a b:V3} (ha:oM 16777216 a=true) (hb:oM 16777216 b=true):run tab X 49 [.p (fB a),.p (fB b)] []=some (if oM 16777216 (gV a b)=true then [.p (fB (gV a b)),.p (.int .i64 0)] else [.p (fB ⟨0,0,0⟩),.p (.int .i64 3)],[]):=by
 refine bK (hX _ rfl) ?_
 rw[fB,fB,e49]
 refine aW (c47 X hX a) ?_
 simp only[List.headD_cons,iP,bF,ha,Bool.not_true,cond_false]
 refine aW (c47 X hX b) ?_
 simp only[List.headD_cons,iP,bF,hb,Bool.not_true,cond_false]
 refine aW (ai1 X hX ha hb) ?_
 refine aW (c84 X hX (gV a b)) ?_
 cases oM 16777216 (gV a b)<;>rfl
theorem xX {v:V3} (h:vU v=true):oM 16777216 v=true:=by
 have _:=hX
 have:=TR h
 exact tV.2 ⟨⟨by omega,by omega⟩,⟨by omega,by omega⟩,by omega,by omega⟩
theorem ai2 (b : V3) (hb : oM 16777216 b = true) (f : List PV) (n0 i : Int) (acc : List PV) (k m r s p : Int) (c : List V3) (hc : zU c = true) (hl : c.length ≤ 200) (ha : acc.length ≤ 1000) {res : List AV × List aI}
    (hn:L tab (run tab X) 22 [] [.lp [1,1,1,0,1,0]] (uP 0 (acc.length+1) f n0 (IntKind.i64.wrap (i+1)) b.x b.y b.z (acc++[eS ⟨k,c.map (fun v=>gV v b),m,r,s,p⟩]))=some res) :
    ∀ (n j:Nat),j+n=c.length →
    L tab (run tab X) 22 [] [.lp [1,1,1,0,1,0],.lp [1,1,0,0,1,1,0,1,0]] (jJ 0 acc.length f n0 i 0 c.length c.length j b.x b.y b.z acc k 0 c.length m r s p (bJ ((c.take j).map (fun v=>gV v b)++c.drop j))) =
     some (if YQ b (c.drop j)=true then res else([.fresh true kS [],.p (.int .i64 3)],[])):=by
  intro n
  induction n with
  | zero =>
   intro j hj
   refine dQ ?_
   rw[rD]
   refine bM (show ¬ (j:Int)<(c.length:Int) by omega) ?_
   rw[List.drop_eq_nil_of_le (show c.length≤j by omega),List.take_of_length_le (show c.length≤j by omega),List.append_nil]
   refine bT (p:=acc.length+1≤2147483648) (by omega) ?_
   rw[List.drop_zero,List.drop_zero,List.take_of_length_le (Nat.le_refl _),List.take_of_length_le (by simp)]
   exact hn
  | succ n ih =>
   intro j hj
   have hlt:j<c.length:=by omega
   have hp:=lS.1 hc c[j] (List.getElem_mem hlt)
   have hg:((c.take j).map (fun v=>gV v b)++c.drop j).getD j default=c[j]:=by
    rw[List.getD_eq_getElem?_getD,List.getElem?_append_right (by simp;omega)]
    simp[Nat.min_eq_left (Nat.le_of_lt hlt),hlt]
   have w1:IntKind.i64.wrap ((j:Int)+1)=((j+1:Nat):Int):=by rw[wrap_eq (by omega) (by omega)];omega
   refine dQ ?_
   rw[rD,w1]
   refine bT (show (j:Int)<(c.length:Int) by omega) ?_
   have hr:(leI (0:Int) (j:Int)&&jo (j:Int) ((c.length:Nat):Int))=true:=by simp;omega
   rw[hr]
   simp only[Int.toNat_natCast,Nat.zero_add,pV,pW,pX,hg,cond_true]
   refine aW (c49 X hX (xX X hX hp) hb) ?_
   rw[List.drop_eq_getElem_cons hlt]
   have eok:YQ b (c[j]::c.drop (j+1))=(vU (gV c[j] b)&&YQ b (c.drop (j+1))):=rfl
   rw[eok]
   cases hw:oM 16777216 (gV c[j] b) with
   | false =>
    have hnp:vU (gV c[j] b)=false:=by
     cases h:vU (gV c[j] b) with
     | false=>rfl
     | true=>rw[xX X hX h]at hw;cases hw
    rw[hnp]
    rfl
   | true =>
    simp only[if_true,List.headD_cons,List.tail_cons,iP,toInt_int]
    refine Hl (c:=((0:Int) != 0)) rfl ?_
    refine aW (c31 X hX (gV c[j] b)) ?_
    simp only[List.headD_cons,iP,bF,Ah]
    cases hq:vU (gV c[j] b) with
    | false =>
     rw[show oM 1048576 (gV c[j] b)=false from hq]
     rfl
    | true =>
     rw[show oM 1048576 (gV c[j] b)=true from hq]
     simp only[cond_true,Bool.true_and]
     have:=ih (j+1) (by omega)
     rw[← this]
     congr 2
     show (bJ _).set j (fB (gV c[j] b))=_
     rw[YR]
     congr 1
     rw[List.take_succ_eq_append_getElem hlt,List.map_append,List.map_cons,List.map_nil,List.append_assoc]
     have h1:((c.take j).map fun v=>gV v b).length=j:=by simp;omega
     rw[List.set_append,if_neg (by rw[h1];omega),h1,Nat.sub_self,List.set_cons_zero]
     rfl
theorem l22 (hK : EC X) (b : V3) (hb : oM 16777216 b = true) (f : List Sh) (hf : f.length ≤ 50) (hs : ∀ s ∈ f,Shape s) : ∀ (n i : Nat) (acc : List Sh),i + n = f.length → acc.length = i →
    L tab (run tab X) 22 [] [.lp [1,1,1,0,1,0]] (uP 0 acc.length (dh f) f.length i b.x b.y b.z (dh acc))=some ([.fresh true kS (dh (sO b acc (f.drop i)).1),.p (.int .i64 (sO b acc (f.drop i)).2)],[]):=by
  intro n
  induction n with
  | zero =>
   intro i acc hi ha
   refine dQ ?_
   rw[Jq]
   refine bM (show ¬ (i:Int)<(f.length:Int) by omega) ?_
   rw[List.drop_eq_nil_of_le (show f.length≤i by omega),List.drop_zero,List.take_of_length_le (by simp)]
   rfl
  | succ n ih =>
   intro i acc hi ha
   have hlt:i<f.length:=by omega
   have h1:=hs _ (qV hlt)
   have w1:IntKind.i64.wrap ((i:Int)+1)=((i+1:Nat):Int):=by rw[wrap_eq (by omega) (by omega)];omega
   refine dQ ?_
   rw[Jq]
   refine bT (show (i:Int)<(f.length:Int) by omega) ?_
   have hr:(leI (0:Int) (i:Int)&&jo (i:Int) (((dh f).length:Nat):Int))=true:=by simp;omega
   rw[hr,Int.toNat_natCast,jD f hlt]
   simp only[cond_true,gu,List.getD_cons_zero,List.getD_cons_succ,jK,toInt_int]
   refine aW (hK (sat f i).c (by have:=h1.1;omega)) ?_
   simp only[List.headD_cons,sN,aQ]
   rw[EG hlt]
   have hnext:=ih (i+1) (acc++[xW b (sat f i)]) (by omega) (by simp[ha])
   have:=ai2 X hX b hb (dh f) f.length i (dh acc) (sat f i).k (sat f i).m (sat f i).r (sat f i).s (sat f i).p (sat f i).c h1.2.1 h1.1 (by simp;omega) (res:=([.fresh true kS (dh (sO b (acc++[xW b (sat f i)]) (f.drop (i+1))).1),.p (.int .i64 (sO b (acc++[xW b (sat f i)]) (f.drop (i+1))).2)],[])) (by
    rw[w1,← hnext]
    congr 1
    simp[dh,xW]) (sat f i).c.length 0 (by omega)
   simp only[List.take_zero,List.map_nil,List.nil_append,List.drop_zero,bg]at this
   refine Eq.trans this ?_
   rw[sO]
   split<;>rfl
theorem c22 (hK:EC X) (f:List Sh) (hf:Fits f) (b:V3):run tab X 22 [.p (.list true kS (dh f)),.p (fB b)] []=some ([.fresh true kS (dh (qK f b).1),.p (.int .i64 (qK f b).2)],[]):=by
 refine bK (hX _ rfl) ?_
 rw[fB,e22]
 refine aW (c28 X hX f hf) ?_
 simp only[List.headD_cons,iP,bF,Ah]
 unfold qK
 cases hb:uV f with
 | false=>rfl
 | true =>
  simp only[cond_true]
  refine aW (c47 X hX b) ?_
  simp only[List.headD_cons,iP,bF]
  cases hm:oM 16777216 b with
  | false=>rfl
  | true =>
   obtain⟨h1,h2⟩:=uX hb
   simp only[cond_true,and_self,if_true,bg]
   exact l22 X hX hK b hm f h1 h2 f.length 0 [] (by omega) rfl
theorem l21 (a b : List Sh) (hf : Fits a) (hl : a.length = b.length) : ∀ (n i : Nat),i + n = a.length → a.take i = b.take i →
    L tab (run tab X) 21 [] [.lp [1,1,0,1,0]] (BD (dh a) (dh b) i)=some ([.p (.bool (decide (a=b)))],[]):=by
  have ne:∀ i,i<a.length→sat a i≠sat b i→some ([AV.p (.bool false)],([]:List aI))=some ([.p (.bool (decide (a=b)))],[]):=by
   intro i hi h
   rw[decide_eq_false fun e=>h (by rw[e])]
  intro n
  induction n with
  | zero =>
   intro i hi ht
   refine dQ ?_
   rw[Nk,bg]
   refine bM (show ¬ (i:Int)<(a.length:Int) by omega) ?_
   rw[List.take_of_length_le (by omega),List.take_of_length_le (by omega)]at ht
   simp[ht]
  | succ n ih =>
   intro i hi ht
   have h1:i<a.length:=by omega
   have h2:i<b.length:=by omega
   have w1:IntKind.i64.wrap ((i:Int)+1)=((i+1:Nat):Int):=by rw[wrap_eq (by have:=hf.1;omega) (by have:=hf.1;omega)];omega
   refine dQ ?_
   rw[Nk,w1]
   have hr:(leI (0:Int) (i:Int)&&jo (i:Int) (((dh a).length:Nat):Int))=true:=by simp;omega
   have hr2:(leI (0:Int) (i:Int)&&jo (i:Int) (((dh b).length:Nat):Int))=true:=by simp;omega
   refine bT (show (i:Int)<(((dh a).length:Nat):Int) by simp;omega) ?_
   rw[hr,hr2,Int.toNat_natCast,jD a h1,jD b h2]
   simp only[cond_true,gu,List.getD_cons_zero,List.getD_cons_succ,jK,toInt_int,CW]
   have WZ:=ne i h1
   refine IU (fun e1=>?_) fun h=>WZ fun e=>h (by rw[e])
   refine IU (fun e2=>?_) fun h=>WZ fun e=>h (by rw[e])
   refine IU (fun e3=>?_) fun h=>WZ fun e=>h (by rw[e])
   refine IU (fun e4=>?_) fun h=>WZ fun e=>h (by rw[e])
   refine IU (fun e5=>?_) fun h=>WZ fun e=>h (by rw[e])
   refine aW (c16 X hX (sat a i).c (sat b i).c (hf.2 _ (qV h1))) ?_
   simp only[List.headD_cons,iP,bF,Ah,l7]
   refine IU (fun e6=>?_) fun h=>WZ fun e=>h (by rw[e])
   have es:sat a i=sat b i:=by
    cases ha:sat a i;cases hb:sat b i
    rw[ha,hb]at e1 e2 e3 e4 e5 e6
    simp only at e1 e2 e3 e4 e5 e6
    subst e1 e2 e3 e4 e5 e6;rfl
   refine ih (i+1) (by omega) ?_
   rw[List.take_succ_eq_append_getElem h1,List.take_succ_eq_append_getElem h2,ht,← wM h1,← wM h2,es]
theorem c21 (a b:List Sh) (hf:Fits a):run tab X 21 [.p (.list true kS (dh a)),.p (.list true kS (dh b))] []=some ([.p (.bool (decide (a=b)))],[]):=by
 refine bK (hX _ rfl) ?_
 rw[e21,bg,bg,CW]
 by_cases hl:a.length=b.length
 · rw[if_pos (by omega)]
   exact l21 X hX a b hf hl a.length 0 (by omega) (by simp)
 · rw[if_neg (by omega),decide_eq_false fun e=>hl (by rw[e])]
end
end Go.Skm.Fig
