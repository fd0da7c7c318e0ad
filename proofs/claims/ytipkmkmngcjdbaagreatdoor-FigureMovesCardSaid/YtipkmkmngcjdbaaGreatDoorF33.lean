/-
  The document's Valid of a vector and Move of a figure; condition: valid figures and vectors.
-/
import Derived.Test.YtipkmkmngcjdbaaGreatDoorF19
import Derived.Test.YtipkmkmngcjdbaaGreatDoorEqw
namespace Go.Skm.Fig
open Go Go.Skm
section
variable (X:Ext) (hX:Mine X)
include hX
theorem c23 (v:V3):run tab X 23 [.p (fB v)] []=some ([.p (.bool (oM 16777216 v))],[]):=by
 refine bK (hX _ rfl) ?_
 rw[fB,e23]
 refine aW (c50 X hX v 16777216 (by decide) (by decide)) ?_
 rfl
omit hX in
theorem YT (b:V3) (l:List V3):zU (l.map fun v=>gV v b)=YQ b l:=by
 cases h:YQ b l with
 | true =>
  refine lS.2 fun v hv=>?_
  obtain⟨u,hu,rfl⟩:=List.mem_map.1 hv
  exact List.all_eq_true.1 h u hu
 | false =>
  cases h2:zU (l.map fun v=>gV v b) with
  | false=>rfl
  | true =>
   have:YQ b l=true:=List.all_eq_true.2 fun u hu=>lS.1 h2 _ (List.mem_map_of_mem hu)
   rw[this]at h;cases h
omit hX in
theorem VA {v:V3} (h:oM 16777216 v=true):Bd 1099511627776 v:=by
 obtain⟨h1,h2,h3⟩:=tV.1 h
 exact⟨by omega,by omega,by omega⟩
theorem l24b (b : V3) (hb : oM 16777216 b = true) (f : List Sh) (i : Nat) (hi : i < f.length) (h1 : Shape (sat f i)) (acc : List PV) (ha : acc.length ≤ 1000) {res : List AV × List aI}
    (hn:L tab (run tab X) 24 [] [.lp [1,1,0,1,0]] (uy (dh f) 0 (acc.length+1) (IntKind.i64.wrap ((i:Int)+1)) b.x b.y b.z (acc++[eS (xW b (sat f i))]))=some res) :
    ∀ (n j:Nat),j+1+n=(sat f i).c.length →
    L tab (run tab X) 24 [] [.lp [1,1,0,1,0],.lp [1,0,0,1,1,0,1,0]] (jA (dh f) 0 acc.length i ((j+1:Nat):Int) b.x b.y b.z acc (sat f i).k 0 (j+1) (sat f i).m (sat f i).r (sat f i).s (sat f i).p (bJ (((sat f i).c.take (j+1)).map fun v=>gV v b))) =
     some (if YQ b (sat f i).c=true then res else([.fresh true kS [],.p (.int .i64 3)],[])):=by
  have hl:=h1.1
  intro n
  induction n with
  | zero =>
   intro j hj
   refine dQ ?_
   rw[qG]
   have hr:(leI (0:Int) (i:Int)&&jo (i:Int) (((dh f).length:Nat):Int))=true:=by simp;omega
   rw[hr,Int.toNat_natCast,jD f hi]
   simp only[cond_true,gu,List.getD_cons_zero,List.getD_cons_succ,jK,aQ]
   refine bM (show ¬ ((j+1:Nat):Int)<((sat f i).c.length:Int) by omega) ?_
   rw[List.drop_zero,List.take_of_length_le (show (sat f i).c.length≤j+1 by omega),List.take_of_length_le (show (bJ ((sat f i).c.map fun v=>gV v b)).length≤j+1 by simp;omega)]
   refine aW (c37 X hX _ (by simp;omega)) ?_
   simp only[List.headD_cons,iP,bF]
   rw[YT]
   cases ho:YQ b (sat f i).c with
   | false=>rfl
   | true =>
    refine Hl rfl ?_
    refine bT (p:=acc.length+1≤2147483648) (by omega) ?_
    rw[List.drop_zero,List.take_of_length_le (Nat.le_refl _)]
    exact hn
  | succ n ih =>
   intro j hj
   have hlt:j+1<(sat f i).c.length:=by omega
   have hp:=lS.1 h1.2.1 (sat f i).c[j+1] (List.getElem_mem hlt)
   have hg:(sat f i).c.getD (j+1) default=(sat f i).c[j+1]:=by
    rw[List.getD_eq_getElem?_getD];simp[hlt]
   have w1:IntKind.i64.wrap (((j+1:Nat):Int)+1)=((j+1+1:Nat):Int):=by rw[wrap_eq (by omega) (by omega)];omega
   refine dQ ?_
   rw[qG]
   have hr:(leI (0:Int) (i:Int)&&jo (i:Int) (((dh f).length:Nat):Int))=true:=by simp;omega
   rw[hr,Int.toNat_natCast,jD f hi]
   simp only[cond_true,gu,List.getD_cons_zero,List.getD_cons_succ,jK,aQ]
   refine bT (show ((j+1:Nat):Int)<((sat f i).c.length:Int) by omega) ?_
   have hr2:(leI (0:Int) ((j+1:Nat):Int)&&jo ((j+1:Nat):Int) (((sat f i).c.length:Nat):Int))=true:=by simp;omega
   rw[hr2]
   simp only[cond_true,Int.toNat_natCast,pV,pW,pX,hg]
   refine aW (c26 X hX (sat f i).c[j+1] b (VA (xX X hX hp)) (VA hb)) ?_
   simp only[List.headD_cons,iP]
   refine bT (p:=j+1+1≤2147483648) (by omega) ?_
   rw[w1,List.drop_zero,List.take_of_length_le (by simp;omega)]
   have:=ih (j+1) (by omega)
   rw[← this,List.take_succ_eq_append_getElem hlt,List.map_append,← Hr]
   rfl
theorem l24 (b : V3) (hb : oM 16777216 b = true) (f : List Sh) (hf : f.length ≤ 50) (hs : ∀ s ∈ f,Shape s) : ∀ (n i : Nat) (acc : List Sh),i + n = f.length → acc.length = i →
    L tab (run tab X) 24 [] [.lp [1,1,0,1,0]] (uy (dh f) 0 acc.length i b.x b.y b.z (dh acc))=some ([.fresh true kS (dh (sO b acc (f.drop i)).1),.p (.int .i64 (sO b acc (f.drop i)).2)],[]):=by
  intro n
  induction n with
  | zero =>
   intro i acc hi ha
   refine dQ ?_
   rw[Np,bg]
   refine bM (show ¬ (i:Int)<(f.length:Int) by omega) ?_
   rw[List.drop_eq_nil_of_le (show f.length≤i by omega),List.drop_zero,List.take_of_length_le (by simp)]
   rfl
  | succ n ih =>
   intro i acc hi ha
   have hlt:i<f.length:=by omega
   have h1:=hs _ (qV hlt)
   have hc1:0<(sat f i).c.length:=by
    rcases h1.2.2 with h | h | h | h | h<;>omega
   have w1:IntKind.i64.wrap ((i:Int)+1)=((i+1:Nat):Int):=by rw[wrap_eq (by omega) (by omega)];omega
   refine dQ ?_
   rw[Np,bg]
   refine bT (show (i:Int)<(f.length:Int) by omega) ?_
   have hr:(leI (0:Int) (i:Int)&&jo (i:Int) ((f.length:Nat):Int))=true:=by simp;omega
   rw[hr,Int.toNat_natCast,jD f hlt]
   simp only[cond_true,gu,List.getD_cons_zero,List.getD_cons_succ,toInt_int]
   rw[EG hlt,sO]
   have hnext:=ih (i+1) (acc++[xW b (sat f i)]) (by omega) (by simp[ha])
   have hp:=lS.1 h1.2.1 (sat f i).c[0] (List.getElem_mem hc1)
   have hg:(sat f i).c.getD 0 default=(sat f i).c[0]:=by
    rw[List.getD_eq_getElem?_getD];simp[hc1]
   refine dQ ?_
   rw[Dx]
   have hr:(leI (0:Int) (i:Int)&&jo (i:Int) (((dh f).length:Nat):Int))=true:=by simp;omega
   rw[hr,Int.toNat_natCast,jD f hlt]
   simp only[cond_true,gu,List.getD_cons_zero,List.getD_cons_succ,jK,aQ]
   refine bT (show (0:Int)<((sat f i).c.length:Int) by omega) ?_
   have hr2:(leI (0:Int) (0:Int)&&jo (0:Int) (((sat f i).c.length:Nat):Int))=true:=by simp;omega
   rw[hr2]
   simp only[cond_true,Int.toNat_zero,pV,pW,pX,hg]
   refine aW (c26 X hX (sat f i).c[0] b (VA (xX X hX hp)) (VA hb)) ?_
   simp only[List.headD_cons,iP]
   have:=l24b X hX b hb f i hlt h1 (dh acc) (by simp;omega) (res:=([.fresh true kS (dh (sO b (acc++[xW b (sat f i)]) (f.drop (i+1))).1),.p (.int .i64 (sO b (acc++[xW b (sat f i)]) (f.drop (i+1))).2)],[])) (by
    rw[w1,← hnext]
    congr 1
    simp[dh]) ((sat f i).c.length-1) 0 (by omega)
   rw[bg]at this
   have e1:IntKind.i64.wrap (0+1)=((0+1:Nat):Int):=by decide
   rw[e1]
   have e2:(sat f i).c.take (0+1)=[(sat f i).c[0]]:=by
    rw[List.take_succ_eq_append_getElem hc1];rfl
   rw[e2]at this
   refine Eq.trans this ?_
   split<;>rfl
theorem c24 (f:List Sh) (hf:uV f=true) (b:V3) (hb:oM 16777216 b=true):run tab X 24 [.p (.list true kS (dh f)),.p (fB b)] []=some ([.fresh true kS (dh (qK f b).1),.p (.int .i64 (qK f b).2)],[]):=by
 refine bK (hX _ rfl) ?_
 rw[fB,e24]
 obtain⟨h1,h2⟩:=uX hf
 unfold qK
 rw[if_pos ⟨hf,hb⟩]
 exact l24 X hX b hb f h1 h2 f.length 0 [] (by omega) rfl
end
end Go.Skm.Fig
