/-
  Appending an act, in the program and in the document; when two programs are the same; condition: programs of moderate size.
-/
import Derived.Test.YtfmoopdnamdobaaDoorP8
import Derived.Test.YtfmoopdnamdobaaDoorEqu
namespace Go.Skm.Prg
open Go Go.Skm
def addA (p:Pg) (a:Ac):Pg:=⟨p.names,p.homes,p.acts++[a]⟩
def nilP:PV:=.agg [.nil,.nil,.nil]
def appR (p:Pg) (a:Ac):PV × Int:=if validP p then(if validP (addA p a) then(eG (addA p a),0) else(nilP,10)) else(nilP,2)
theorem eAs_append (l:List Ac) (a:Ac):eAs l++[eA a]=eAs (l++[a]):=by simp[eAs]
theorem eAs_all (l:List Ac):((eAs l).drop 0).take l.length=eAs l:=by rw[← eAs_length l,all_take]
section
variable (X:Ext) (hX:Mine X)
include hX
theorem l32 (hC : Clones X) (p : Pg) (hp : Small p) : ∀ (k i : Nat),i + k = p.acts.length →
    L tab (run tab X) 32 [] [.lp [1,1,0,1,0]] (S32_11010 p.acts.length i (eN p.names) (encL p.homes) 0 p.acts.length (eAs p.acts))=some ([.agg [.p (.list false [.str] (eN p.names)),.p (.list true kV3 (encL p.homes)),.fresh true kAc (eAs p.acts)]],[]):=by
  have _ := hX
  have ha:=hp.acts
  intro k
  induction k with
  | zero =>
   intro i hi
   refine L_of ?_
   rw[e32_11010,condD,if_neg (by omega),eAs_all]
  | succ k ih =>
   intro i hi
   have hlt:i<p.acts.length:=by omega
   have e1:((eA p.acts[i]).cell 0).toStr=ba p.acts[i].name:=rfl
   have e2:((eA p.acts[i]).cell 1).toInt=p.acts[i].len:=rfl
   have e3:((eA p.acts[i]).cell 2).toList=eMs p.acts[i].mvs:=rfl
   have e4:(eAs p.acts).set i (.agg [.str (ba p.acts[i].name),.int .i64 p.acts[i].len,.list true kMv (eMs p.acts[i].mvs)])=eAs p.acts:=by
    have:(eAs p.acts)[i]'(by rw[eAs_length];exact hlt)=.agg [.str (ba p.acts[i].name),.int .i64 p.acts[i].len,.list true kMv (eMs p.acts[i].mvs)]:=by
     simp[eAs,eA]
    rw[← this,List.set_getElem_self]
   have hm:=(hp.act p.acts[i] (List.getElem_mem hlt)).1
   have k45:=hC.c45 (eMs p.acts[i].mvs) (by rw[eMs_length];omega)
   refine L_of ?_
   rw[e32_11010]
   simp only[condA,condD,Int.toNat_natCast,Nat.zero_add,eAs_get p.acts hlt,e1,e2,e3,k45,Option.bind_some,List.headD_cons,pv_p,toList_list,e4]
   rw[if_pos (by omega),if_pos (by omega),if_pos (by omega),if_pos (by omega),if_pos (by omega),i64_succ i (by omega),ih (i+1) (by omega)]
theorem c32 (hC:Clones X) (p:Pg) (hp:Small p):run tab X 32 [.p (eG p)] []=some ([.agg [.p (.list false [.str] (eN p.names)),.p (.list true kV3 (encL p.homes)),.fresh true kAc (eAs p.acts)]],[]):=by
 refine run_of (hX _ rfl) ?_
 have q1:=hp.names
 have q2:=hp.homes
 have q3:=hp.acts
 rw[eG,e32,hC.c54 _ (by rw[eN_length];omega),hC.c55 _ (by rw[encL_length];omega),hC.c56 _ (by rw[eAs_length];omega)]
 have:=l32 X hX hC p hp p.acts.length 0 (by omega)
 simp only[Option.bind_some,List.headD_cons,pv_p,toList_list,freshList_fresh,eAs_length]
 exact(show L tab (run tab X) 32 [] [.lp [1,1,0,1,0]] (S32_11010 p.acts.length (0:Nat) (eN p.names) (encL p.homes) 0 p.acts.length (eAs p.acts))=_ from this)
theorem c20 (hC:Clones X) (p:Pg) (hp:Small p) (a:Ac) (ha:Small (addA p a)):run tab X 20 [.p (eG p),.p (eA a)] []=some ([.p (appR p a).1,.p (.int .i64 (appR p a).2)],[]):=by
 have h10:=c10 X hX hC p hp
 have h10a:=c10 X hX hC (addA p a) ha
 have h32:=c32 X hX hC p hp
 have hl:=hp.acts
 rw[eG]at h10 h10a h32
 refine run_of (hX _ rfl) ?_
 have hm:=(ha.act a (by show a∈p.acts++[a];simp)).1
 rw[eG,eA,e20,h10,h32,hC.c45 _ (by rw[eMs_length];omega)]
 have e1:(AV.agg [.p (.list false [.str] (eN p.names)),.p (.list true kV3 (encL p.homes)),.fresh true kAc (eAs p.acts)]).aggList=eAs p.acts:=rfl
 have e2:((AV.agg [.p (.list false [.str] (eN p.names)),.p (.list true kV3 (encL p.homes)),.fresh true kAc (eAs p.acts)]).aggPv.cell 0).toList=eN p.names:=rfl
 have e3:((AV.agg [.p (.list false [.str] (eN p.names)),.p (.list true kV3 (encL p.homes)),.fresh true kAc (eAs p.acts)]).aggPv.cell 1).toList=encL p.homes:=rfl
 simp only[Option.bind_some,List.headD_cons,pv_p,toBool_bool,condO,e1,e2,e3,eAs_length,toList_list]
 rw[appR]
 cases hv:validP p with
 | false=>rfl
 | true =>
  simp only[cond_true,if_true]
  have e4:(((((eAs p.acts).drop 0).take p.acts.length)++([.agg [.str (ba a.name),.int .i64 a.len,.list true kMv (eMs a.mvs)]]:List PV)).drop 0).take (p.acts.length+1)=eAs (p.acts++[a]):=by
   rw[eAs_all]
   have h2:=eAs_append p.acts a
   rw[eA]at h2
   rw[h2]
   have:=eAs_all (p.acts++[a])
   rw[List.length_append,List.length_singleton]at this
   exact this
  rw[condP (by omega) rfl,e4]
  have e5:(addA p a).acts=p.acts++[a]:=rfl
  rw[← e5]
  have h10b:run tab X 10 [.p (.agg [.list false [.str] (eN p.names),.list true kV3 (encL p.homes),.list true kAc (eAs (addA p a).acts)])] []=some ([.p (.bool (validP (addA p a)))],[]):=h10a
  rw[h10b]
  simp only[Option.bind_some,List.headD_cons,pv_p,toBool_bool]
  cases hv2:validP (addA p a) with
  | false=>rfl
  | true=>rfl
end
end Go.Skm.Prg
