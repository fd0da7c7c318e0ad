/-
  Appending an act, in the program and in the document; when two programs are the same; condition: programs of moderate size.
-/
import Derived.Test.YtfmoopdnamdobaaDoorP8
import Derived.Test.YtfmoopdnamdobaaDoorEqu
namespace Go.Skm.Prg
open Go Go.Skm
def addA (p:Pg) (a:Ac):Pg:=⟨p.names,p.homes,p.acts++[a]⟩
def nilP:PV:=.agg [.nil,.nil,.nil]
def appR (p:Pg) (a:Ac):PV × Int:=if validP p then(if validP (addA p a) then(eG (addA p a),0) else(nilP,10)) else(nilP,2)
theorem eAs_append (l:List Ac) (a:Ac):eAs l++[eA a]=eAs (l++[a]):=by simp[eAs]
theorem eAs_all (l:List Ac):((eAs l).drop 0).take l.length=eAs l:=by rw[← eAs_length l,all_take]
theorem eqM {a b:Mv}:(((a.to.x==b.to.x)&&((a.to.y==b.to.y)&&((a.to.z==b.to.z)&&true)))&&((a.wait==b.wait)&&((a.fl==b.fl)&&((a.rise==b.rise)&&true))))=decide (a=b):=by
 rw[eqV]
 cases a with
 | mk t w f r =>
  cases b with
  | mk t' w' f' r' =>
   rw[Bool.eq_iff_iff]
   simp
section
variable (X:Ext) (hX:Mine X)
include hX
theorem l32 (hC : Clones X) (p : Pg) (hp : Small p) : ∀ (k i : Nat),i + k = p.acts.length →
    L tab (run tab X) 32 [] [.lp [1,1,0,1,0]] (S32_11010 p.acts.length i (eN p.names) (encL p.homes) 0 p.acts.length (eAs p.acts))=some ([.agg [.p (.list false [.str] (eN p.names)),.p (.list true kV3 (encL p.homes)),.fresh true kAc (eAs p.acts)]],[]):=by
  have _ := hX
  have ha:=hp.acts
  intro k
  induction k with
  | zero =>
   intro i hi
   refine L_of ?_
   rw[e32_11010,condD,if_neg (by omega),eAs_all]
  | succ k ih =>
   intro i hi
   have hlt:i<p.acts.length:=by omega
   have e1:((eA p.acts[i]).cell 0).toStr=ba p.acts[i].name:=rfl
   have e2:((eA p.acts[i]).cell 1).toInt=p.acts[i].len:=rfl
   have e3:((eA p.acts[i]).cell 2).toList=eMs p.acts[i].mvs:=rfl
   have e4:(eAs p.acts).set i (.agg [.str (ba p.acts[i].name),.int .i64 p.acts[i].len,.list true kMv (eMs p.acts[i].mvs)])=eAs p.acts:=by
    have:(eAs p.acts)[i]'(by rw[eAs_length];exact hlt)=.agg [.str (ba p.acts[i].name),.int .i64 p.acts[i].len,.list true kMv (eMs p.acts[i].mvs)]:=by
     simp[eAs,eA]
    rw[← this,List.set_getElem_self]
   have hm:=(hp.act p.acts[i] (List.getElem_mem hlt)).1
   have k45:=hC.c45 (eMs p.acts[i].mvs) (by rw[eMs_length];omega)
   refine L_of ?_
   rw[e32_11010]
   simp only[condA,condD,Int.toNat_natCast,Nat.zero_add,eAs_get p.acts hlt,e1,e2,e3,k45,Option.bind_some,List.headD_cons,pv_p,toList_list,e4]
   rw[if_pos (by omega),if_pos (by omega),if_pos (by omega),if_pos (by omega),if_pos (by omega),i64_succ i (by omega),ih (i+1) (by omega)]
theorem c32 (hC:Clones X) (p:Pg) (hp:Small p):run tab X 32 [.p (eG p)] []=some ([.agg [.p (.list false [.str] (eN p.names)),.p (.list true kV3 (encL p.homes)),.fresh true kAc (eAs p.acts)]],[]):=by
 refine run_of (hX _ rfl) ?_
 have q1:=hp.names
 have q2:=hp.homes
 have q3:=hp.acts
 rw[eG,e32,hC.c54 _ (by rw[eN_length];omega),hC.c55 _ (by rw[encL_length];omega),hC.c56 _ (by rw[eAs_length];omega)]
 have:=l32 X hX hC p hp p.acts.length 0 (by omega)
 simp only[Option.bind_some,List.headD_cons,pv_p,toList_list,freshList_fresh,eAs_length]
 exact(show L tab (run tab X) 32 [] [.lp [1,1,0,1,0]] (S32_11010 p.acts.length (0:Nat) (eN p.names) (encL p.homes) 0 p.acts.length (eAs p.acts))=_ from this)
theorem c20 (hC:Clones X) (p:Pg) (hp:Small p) (a:Ac) (ha:Small (addA p a)):run tab X 20 [.p (eG p),.p (eA a)] []=some ([.p (appR p a).1,.p (.int .i64 (appR p a).2)],[]):=by
 have h10:=c10 X hX hC p hp
 have h10a:=c10 X hX hC (addA p a) ha
 have h32:=c32 X hX hC p hp
 have hl:=hp.acts
 rw[eG]at h10 h10a h32
 refine run_of (hX _ rfl) ?_
 have hm:=(ha.act a (by show a∈p.acts++[a];simp)).1
 rw[eG,eA,e20,h10,h32,hC.c45 _ (by rw[eMs_length];omega)]
 have e1:(AV.agg [.p (.list false [.str] (eN p.names)),.p (.list true kV3 (encL p.homes)),.fresh true kAc (eAs p.acts)]).aggList=eAs p.acts:=rfl
 have e2:((AV.agg [.p (.list false [.str] (eN p.names)),.p (.list true kV3 (encL p.homes)),.fresh true kAc (eAs p.acts)]).aggPv.cell 0).toList=eN p.names:=rfl
 have e3:((AV.agg [.p (.list false [.str] (eN p.names)),.p (.list true kV3 (encL p.homes)),.fresh true kAc (eAs p.acts)]).aggPv.cell 1).toList=encL p.homes:=rfl
 simp only[Option.bind_some,List.headD_cons,pv_p,toBool_bool,condO,e1,e2,e3,eAs_length,toList_list]
 rw[appR]
 cases hv:validP p with
 | false=>rfl
 | true =>
  simp only[cond_true,if_true]
  have e4:(((((eAs p.acts).drop 0).take p.acts.length)++([.agg [.str (ba a.name),.int .i64 a.len,.list true kMv (eMs a.mvs)]]:List PV)).drop 0).take (p.acts.length+1)=eAs (p.acts++[a]):=by
   rw[eAs_all]
   have h2:=eAs_append p.acts a
   rw[eA]at h2
   rw[h2]
   have:=eAs_all (p.acts++[a])
   rw[List.length_append,List.length_singleton]at this
   exact this
  rw[condP (by omega) rfl,e4]
  have e5:(addA p a).acts=p.acts++[a]:=rfl
  rw[← e5]
  have h10b:run tab X 10 [.p (.agg [.list false [.str] (eN p.names),.list true kV3 (encL p.homes),.list true kAc (eAs (addA p a).acts)])] []=some ([.p (.bool (validP (addA p a)))],[]):=h10a
  rw[h10b]
  simp only[Option.bind_some,List.headD_cons,pv_p,toBool_bool]
  cases hv2:validP (addA p a) with
  | false=>rfl
  | true=>rfl
theorem c22 (p:Pg) (hp:Small p) (a:Ac):run tab X 22 [.p (eG p),.p (eA a)] []=some ([.p (eG (addA p a))],[]):=by
 have hl:=hp.acts
 refine run_of (hX _ rfl) ?_
 rw[eG,eA,e22,eAs_length]
 have e4:(((((eAs p.acts).drop 0).take p.acts.length)++([.agg [.str (ba a.name),.int .i64 a.len,.list true kMv (eMs a.mvs)]]:List PV)).drop 0).take (p.acts.length+1)=eAs (p.acts++[a]):=by
  rw[eAs_all]
  have h2:=eAs_append p.acts a
  rw[eA]at h2
  rw[h2]
  have:=eAs_all (p.acts++[a])
  rw[List.length_append,List.length_singleton]at this
  exact this
 rw[condP (by omega) rfl,condP (by omega) rfl,e4]
 rfl
theorem l46 (a b : List Mv) (hab : a.length = b.length) (ha : a.length ≤ 1000) : ∀ (k i : Nat),i + k = a.length →
    L tab (run tab X) 46 [] [.lp [1,1,0,1,0]] (S46_11010 (eMs a) (eMs b) i)=some ([.p (.bool (decide (a.drop i=b.drop i)))],[]):=by
  have _ := hX
  intro k
  induction k with
  | zero =>
   intro i hi
   refine L_of ?_
   rw[e46_11010,condD,eMs_length,if_neg (by omega),show a.drop i=[] from List.drop_eq_nil_iff.2 (by omega),show b.drop i=[] from List.drop_eq_nil_iff.2 (by omega)]
   simp
  | succ k ih =>
   intro i hi
   have h1:i<a.length:=by omega
   have h2:i<b.length:=by omega
   have q0:∀ m:Mv,((eM m).cell 0).toInt=m.to.x:=fun _=>rfl
   have q1:∀ m:Mv,((eM m).cell 1).toInt=m.to.y:=fun _=>rfl
   have q2:∀ m:Mv,((eM m).cell 2).toInt=m.to.z:=fun _=>rfl
   have q3:∀ m:Mv,((eM m).cell 3).toInt=m.wait:=fun _=>rfl
   have q4:∀ m:Mv,((eM m).cell 4).toInt=m.fl:=fun _=>rfl
   have q5:∀ m:Mv,((eM m).cell 5).toInt=m.rise:=fun _=>rfl
   refine L_of ?_
   rw[e46_11010]
   simp only[Int.toNat_natCast,eMs_length,eMs_get a h1,eMs_get b h2,q0,q1,q2,q3,q4,q5,eqM]
   rw[condD,if_pos (by omega),condA,condA]
   simp only[condD,condO]
   rw[if_pos (by omega),if_pos (by omega),if_pos (by omega),if_pos (by omega),i64_succ i (by omega),ih (i+1) (by omega),List.drop_eq_getElem_cons h1,List.drop_eq_getElem_cons h2]
   by_cases h:a[i]=b[i]
   · rw[if_pos h];simp only[List.cons.injEq,h,true_and]
   · rw[if_neg h];simp only[List.cons.injEq,h,false_and,decide_false]
theorem c46 (a b:List Mv) (ha:a.length≤1000):run tab X 46 [.p (.list true kMv (eMs a)),.p (.list true kMv (eMs b))] []=some ([.p (.bool (decide (a=b)))],[]):=by
 refine run_of (hX _ rfl) ?_
 rw[e46,condN,eMs_length,eMs_length]
 by_cases h:a.length=b.length
 · rw[if_pos (by omega)]
   have:=l46 X hX a b h ha a.length 0 (by omega)
   refine(show L tab (run tab X) 46 [] [.lp [1,1,0,1,0]] (S46_11010 (eMs a) (eMs b) (0:Nat))=_ from this).trans ?_
   simp
 · rw[if_neg (by omega),decide_eq_false (fun e=>h (by rw[e]))]
theorem l21c (p q : Pg) (hp : Small p) (h0 : p.acts.length = q.acts.length) : ∀ (k i : Nat),i + k = p.acts.length →
    L tab (run tab X) 21 [] [.lp [1,1,1,1,0,1,0]] (S21_1111010 i (eN p.names) (encL p.homes) (eAs p.acts) (eN q.names) (encL q.homes) (eAs q.acts))=some ([.p (.bool (decide (p.acts.drop i=q.acts.drop i)))],[]):=by
  have ha:=hp.acts
  intro k
  induction k with
  | zero =>
   intro i hi
   refine L_of ?_
   rw[e21_1111010,condD,eAs_length,if_neg (by omega),show p.acts.drop i=[] from List.drop_eq_nil_iff.2 (by omega),show q.acts.drop i=[] from List.drop_eq_nil_iff.2 (by omega)]
   simp
  | succ k ih =>
   intro i hi
   have h1:i<p.acts.length:=by omega
   have h2:i<q.acts.length:=by omega
   have hs:=(hp.act p.acts[i] (List.getElem_mem h1)).1
   have e1:∀ a:Ac,((eA a).cell 0).toStr=ba a.name:=fun _=>rfl
   have e2:∀ a:Ac,((eA a).cell 1).toInt=a.len:=fun _=>rfl
   have e3:∀ a:Ac,((eA a).cell 2).toList=eMs a.mvs:=fun _=>rfl
   have hb:((ba p.acts[i].name).toList==(ba q.acts[i].name).toList)=decide (p.acts[i].name=q.acts[i].name):=by
    rw[ba_beq];simp only[ba_inj]
   have hac:p.acts[i]=q.acts[i]↔p.acts[i].name=q.acts[i].name∧p.acts[i].len=q.acts[i].len∧p.acts[i].mvs=q.acts[i].mvs:=by
    cases p.acts[i];cases q.acts[i];simp
   refine L_of ?_
   rw[e21_1111010]
   simp only[condA,condD,condO,condN,Int.toNat_natCast,eAs_length,eAs_get p.acts h1,eAs_get q.acts h2,e1,e2,e3,hb]
   rw[if_pos (by omega),if_pos (by omega),if_pos (by omega),if_pos (by omega),if_pos (by omega),List.drop_eq_getElem_cons h1,List.drop_eq_getElem_cons h2]
   by_cases g1:p.acts[i].name=q.acts[i].name
   · rw[if_pos g1]
     by_cases g2:p.acts[i].len=q.acts[i].len
     · rw[if_pos g2,c46 X hX _ _ (by omega)]
       simp only[Option.bind_some,List.headD_cons,pv_p,toBool_bool,condD]
       by_cases g3:p.acts[i].mvs=q.acts[i].mvs
       · rw[if_pos g3,i64_succ i (by omega),ih (i+1) (by omega)]
         simp only[List.cons.injEq,hac.2 ⟨g1,g2,g3⟩,true_and]
       · rw[if_neg g3]
         simp only[List.cons.injEq,hac,g3,and_false,false_and,decide_false]
     · rw[if_neg g2]
       simp only[List.cons.injEq,hac,g2,and_false,false_and,decide_false]
   · rw[if_neg g1]
     simp only[List.cons.injEq,hac,g1,false_and,decide_false]
theorem l21b (p q : Pg) (hp : Small p) (h0 : p.acts.length = q.acts.length) (h00 : p.homes.length = q.homes.length) : ∀ (k i : Nat),i + k = p.homes.length →
    L tab (run tab X) 21 [] [.lp [1,1,1,0,1,0]] (S21_111010 i (eN p.names) (encL p.homes) (eAs p.acts) (eN q.names) (encL q.homes) (eAs q.acts))=some ([.p (.bool (decide (p.homes.drop i=q.homes.drop i)&&decide (p.acts=q.acts)))],[]):=by
  have ha:=hp.homes
  intro k
  induction k with
  | zero =>
   intro i hi
   refine L_of ?_
   rw[e21_111010,condD,encL_length,if_neg (by omega),show p.homes.drop i=[] from List.drop_eq_nil_iff.2 (by omega),show q.homes.drop i=[] from List.drop_eq_nil_iff.2 (by omega)]
   have:=l21c X hX p q hp h0 p.acts.length 0 (by omega)
   refine(show L tab (run tab X) 21 [] [.lp [1,1,1,1,0,1,0]] (S21_1111010 (0:Nat) (eN p.names) (encL p.homes) (eAs p.acts) (eN q.names) (encL q.homes) (eAs q.acts))=_ from this).trans ?_
   simp
  | succ k ih =>
   intro i hi
   have h1:i<p.homes.length:=by omega
   have h2:i<q.homes.length:=by omega
   have e3:∀ v:V3,((encV v).cell 0).toInt=v.x:=fun _=>rfl
   have e4:∀ v:V3,((encV v).cell 1).toInt=v.y:=fun _=>rfl
   have e5:∀ v:V3,((encV v).cell 2).toInt=v.z:=fun _=>rfl
   refine L_of ?_
   rw[e21_111010]
   simp only[Int.toNat_natCast,encL_length,encL_at p.homes h1,encL_at q.homes h2,e3,e4,e5,eqV]
   rw[condD,if_pos (by omega),condA,condA]
   simp only[condD,condO]
   rw[if_pos (by omega),if_pos (by omega),if_pos (by omega),if_pos (by omega),i64_succ i (by omega),ih (i+1) (by omega),List.drop_eq_getElem_cons h1,List.drop_eq_getElem_cons h2]
   by_cases h:p.homes[i]=q.homes[i]
   · rw[if_pos h];simp only[List.cons.injEq,h,true_and]
   · rw[if_neg h];simp only[List.cons.injEq,h,false_and,decide_false,Bool.false_and]
theorem l21a (p q : Pg) (hp : Small p) (h0 : p.acts.length = q.acts.length) (h00 : p.homes.length = q.homes.length) (h000 : p.names.length = q.names.length) : ∀ (k i : Nat),i + k = p.names.length →
    L tab (run tab X) 21 [] [.lp [1,1,0,1,0]] (S21_11010 i (eN p.names) (encL p.homes) (eAs p.acts) (eN q.names) (encL q.homes) (eAs q.acts))=some ([.p (.bool (decide (p.names.drop i=q.names.drop i∧p.homes=q.homes∧p.acts=q.acts)))],[]):=by
  have ha:=hp.names
  intro k
  induction k with
  | zero =>
   intro i hi
   refine L_of ?_
   rw[e21_11010,condD,eN_length,if_neg (by omega),show p.names.drop i=[] from List.drop_eq_nil_iff.2 (by omega),show q.names.drop i=[] from List.drop_eq_nil_iff.2 (by omega)]
   have:=l21b X hX p q hp h0 h00 p.homes.length 0 (by omega)
   refine(show L tab (run tab X) 21 [] [.lp [1,1,1,0,1,0]] (S21_111010 (0:Nat) (eN p.names) (encL p.homes) (eAs p.acts) (eN q.names) (encL q.homes) (eAs q.acts))=_ from this).trans ?_
   simp
  | succ k ih =>
   intro i hi
   have h1:i<p.names.length:=by omega
   have h2:i<q.names.length:=by omega
   have e1:∀ x:List UInt8,((PV.str (ba x)).cell 0).toStr=ba x:=fun _=>rfl
   have hb:((ba p.names[i]).toList==(ba q.names[i]).toList)=decide (p.names[i]=q.names[i]):=by
    rw[ba_beq];simp only[ba_inj]
   refine L_of ?_
   rw[e21_11010]
   simp only[condA,condD,condO,Int.toNat_natCast,eN_length,eN_get p.names h1,eN_get q.names h2,e1,hb]
   rw[if_pos (by omega),if_pos (by omega),if_pos (by omega),if_pos (by omega),if_pos (by omega),i64_succ i (by omega),ih (i+1) (by omega),List.drop_eq_getElem_cons h1,List.drop_eq_getElem_cons h2]
   by_cases h:p.names[i]=q.names[i]
   · rw[if_pos h];simp only[List.cons.injEq,h,true_and]
   · rw[if_neg h];simp only[List.cons.injEq,h,false_and,decide_false]
theorem c21 (p q:Pg) (hp:Small p):run tab X 21 [.p (eG p),.p (eG q)] []=some ([.p (.bool (decide (p=q)))],[]):=by
 have hpq:p=q↔p.names=q.names∧p.homes=q.homes∧p.acts=q.acts:=by cases p;cases q;simp
 refine run_of (hX _ rfl) ?_
 rw[eG,eG,e21]
 simp only[condN,eN_length,encL_length,eAs_length]
 by_cases h1:p.names.length=q.names.length
 · rw[if_pos (by omega)]
   by_cases h2:p.homes.length=q.homes.length
   · rw[if_pos (by omega)]
     by_cases h3:p.acts.length=q.acts.length
     · rw[if_pos (by omega)]
       have:=l21a X hX p q hp h3 h2 h1 p.names.length 0 (by omega)
       refine(show L tab (run tab X) 21 [] [.lp [1,1,0,1,0]] (S21_11010 (0:Nat) (eN p.names) (encL p.homes) (eAs p.acts) (eN q.names) (encL q.homes) (eAs q.acts))=_ from this).trans ?_
       simp only[List.drop_zero,hpq]
     · rw[if_neg (by omega),decide_eq_false (fun e=>h3 (by rw[e]))]
   · rw[if_neg (by omega),decide_eq_false (fun e=>h2 (by rw[e]))]
 · rw[if_neg (by omega),decide_eq_false (fun e=>h1 (by rw[e]))]
theorem c21n:run tab X 21 [.p (.agg [.list false [.str] [],.list true kV3 [],.list true kAc []]),.p (.agg [.nil,.nil,.nil])] []=some ([.p (.bool true)],[]):=by
 refine run_of (hX _ rfl) ?_
 rw[e21n]
 refine(show L tab (run tab X) 21 [] [.lp [1,1,0,1,0]] (S21_11010n 0 [] [] [])=_ from ?_)
 refine L_of ?_
 rw[e21_11010n]
 refine(show L tab (run tab X) 21 [] [.lp [1,1,1,0,1,0]] (S21_111010n 0 [] [] [])=_ from ?_)
 refine L_of ?_
 rw[e21_111010n]
 refine(show L tab (run tab X) 21 [] [.lp [1,1,1,1,0,1,0]] (S21_1111010n 0 [] [] [])=_ from ?_)
 refine L_of ?_
 rw[e21_1111010n]
 rfl
end
end Go.Skm.Prg
