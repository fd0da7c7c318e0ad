/-
  The text of a program, as the program writes it; condition: a program of moderate size, numbers of 64 bits.
-/
import Derived.Test.YtfmoopdnamdobaaDoorP10
import Derived.Lib.ItoaLen
namespace Go.Skm.Prg
open Go Go.Skm
def bv (l:List UInt8):List PV:=l.map fun x=>.int .u8 ((x.toNat:Nat):Int)
theorem strPVs_ba (l:List UInt8):strPVs (ba l)=bv l:=rfl
theorem bv_append (x y:List UInt8):bv x++bv y=bv (x++y):=by simp[bv]
@[simp] theorem bv_length (x:List UInt8):(bv x).length=x.length:=by simp[bv]
theorem toNat8 (x:UInt8):UInt8.ofNat (PV.int .u8 ((x.toNat:Nat):Int)).toInt.toNat=x:=by simp[PV.toInt]
theorem bytesOf_bv (l:List UInt8):bytesOf (bv l)=ba l:=by
 unfold bytesOf ba bv
 rw[List.map_map]
 congr 2
 exact(List.map_congr_left fun x _=>toNat8 x).trans (List.map_id _)
theorem bv_all (l:List UInt8):(bv l).all PV.isByte=true:=by
 rw[List.all_eq_true]
 intro x hx
 obtain⟨u,_,rfl⟩:=List.mem_map.1 hx
 have:=u.toNat_lt
 simp only[PV.isByte,Bool.and_eq_true,decide_eq_true_eq]
 omega
def i64 (n:Int):Prop:=-9223372036854775808≤n∧n≤9223372036854775807
structure Rng (p:Pg):Prop where
 homes:∀ v∈p.homes,i64 v.x∧i64 v.y∧i64 v.z
 mvs:∀ a∈p.acts,∀ m∈a.mvs,(i64 m.to.x∧i64 m.to.y∧i64 m.to.z)∧i64 m.wait∧i64 m.fl∧i64 m.rise
def airW:List UInt8:=[97,105,114,99,114,97,102,116]
def actW:List UInt8:=[97,99,116]
def movW:List UInt8:=[109,111,118,101]
def airT (g:List UInt8) (v:V3):List UInt8:=spJ [airW,g,Lib.itoa v.x,Lib.itoa v.y,Lib.itoa v.z]++[10]
def actT (a:Ac):List UInt8:=spJ [actW,a.name,Lib.itoa a.len]++[10]
def movT (m:Mv):List UInt8:=spJ [movW,Lib.itoa m.to.x,Lib.itoa m.to.y,Lib.itoa m.to.z,Lib.itoa m.wait,Lib.itoa m.fl,Lib.itoa m.rise]++[10]
def airsT:List (List UInt8)→List V3→List UInt8
 | g::gs,v::vs=>airT g v++airsT gs vs
 | _,_=>[]
def movsT:List Mv→List UInt8
 | []=>[]
 | m::r=>movT m++movsT r
def actsT:List Ac→List UInt8
 | []=>[]
 | a::r=>actT a++movsT a.mvs++actsT r
def textP (p:Pg):List UInt8:=airsT p.names p.homes++actsT p.acts
theorem etaV (v:V3):(⟨v.x,v.y,v.z⟩:V3)=v:=rfl
theorem etaM (m:Mv):(⟨⟨m.to.x,m.to.y,m.to.z⟩,m.wait,m.fl,m.rise⟩:Mv)=m:=rfl
theorem lineB_air (g:List UInt8) (x y z:Int):lineB [.str ⟨#[97,105,114,99,114,97,102,116]⟩,.str (ba g)] [.int .i64 x,.int .i64 y,.int .i64 z]=ba (airT g ⟨x,y,z⟩):=by
 simp[lineB,ByteArray.toList_eq,airT,airW,ba,PV.toStr,PV.toInt]
theorem lineB_act (g:List UInt8) (n:Int):lineB [.str ⟨#[97,99,116]⟩,.str (ba g)] [.int .i64 n]=ba (spJ [actW,g,Lib.itoa n]++[10]):=by
 simp[lineB,ByteArray.toList_eq,actW,ba,PV.toStr,PV.toInt]
theorem lineB_mov (x y z a b c:Int):lineB [.str ⟨#[109,111,118,101]⟩] [.int .i64 x,.int .i64 y,.int .i64 z,.int .i64 a,.int .i64 b,.int .i64 c]=ba (movT ⟨⟨x,y,z⟩,a,b,c⟩):=by
 simp[lineB,ByteArray.toList_eq,movT,movW,ba,PV.toStr,PV.toInt]
theorem all1 {n:Int} (h:i64 n):([.int .i64 n]:List PV).all PV.isI64=true:=by
 simp only[List.all_cons,List.all_nil,PV.isI64,Bool.and_true,Bool.and_eq_true,decide_eq_true_eq];exact h
theorem all3 {x y z:Int} (h:i64 x∧i64 y∧i64 z):([.int .i64 x,.int .i64 y,.int .i64 z]:List PV).all PV.isI64=true:=by
 simp only[List.all_cons,List.all_nil,PV.isI64,Bool.and_true,Bool.and_eq_true,decide_eq_true_eq];exact h
theorem all6 {x y z a b c:Int} (h:(i64 x∧i64 y∧i64 z)∧i64 a∧i64 b∧i64 c):([.int .i64 x,.int .i64 y,.int .i64 z,.int .i64 a,.int .i64 b,.int .i64 c]:List PV).all PV.isI64=true:=by
 obtain⟨⟨h1,h2,h3⟩,h4,h5,h6⟩:=h
 simp only[List.all_cons,List.all_nil,PV.isI64,Bool.and_true,Bool.and_eq_true,decide_eq_true_eq];exact⟨h1,h2,h3,h4,h5,h6⟩
theorem air_len (g:List UInt8) (v:V3) (hv:i64 v.x∧i64 v.y∧i64 v.z):(airT g v).length≤g.length+90:=by
 have h1:=Lib.itoa_length_le v.x hv.1.1 hv.1.2
 have h2:=Lib.itoa_length_le v.y hv.2.1.1 hv.2.1.2
 have h3:=Lib.itoa_length_le v.z hv.2.2.1 hv.2.2.2
 simp only[airT,spJ,airW,List.length_append,List.length_cons,List.length_nil];omega
theorem act_len (a:Ac) (h:i64 a.len):(actT a).length≤a.name.length+90:=by
 have h1:=Lib.itoa_length_le a.len h.1 h.2
 simp only[actT,spJ,actW,List.length_append,List.length_cons,List.length_nil];omega
theorem mov_len (m:Mv) (hv:(i64 m.to.x∧i64 m.to.y∧i64 m.to.z)∧i64 m.wait∧i64 m.fl∧i64 m.rise):(movT m).length≤200:=by
 obtain⟨⟨q1,q2,q3⟩,q4,q5,q6⟩:=hv
 have h1:=Lib.itoa_length_le m.to.x q1.1 q1.2
 have h2:=Lib.itoa_length_le m.to.y q2.1 q2.2
 have h3:=Lib.itoa_length_le m.to.z q3.1 q3.2
 have h4:=Lib.itoa_length_le m.wait q4.1 q4.2
 have h5:=Lib.itoa_length_le m.fl q5.1 q5.2
 have h6:=Lib.itoa_length_le m.rise q6.1 q6.2
 simp only[movT,spJ,movW,List.length_append,List.length_cons,List.length_nil];omega
section
variable (X:Ext) (hX:Mine X)
include hX
theorem l57m (p : Pg) (hp : Small p) (hr : Rng p) (i : Nat) (hi : i < p.acts.length) (r : List AV × List Blk) : ∀ (k j : Nat) (ws : List UInt8),j + k = p.acts[i].mvs.length → ws.length ≤ 100000000 + 200 * j →
    L tab (run tab X) 57 [] [.lp [1,1,1,0,1,0]] (S57_111010_s1 (eAs p.acts) p.acts.length ((i+1:Nat):Int) (bv (ws++movsT (p.acts[i].mvs.drop j))))=some r →
    L tab (run tab X) 57 [] [.lp [1,1,1,0,1,0],.lp [1,1,0,0,1,1,1,0]] (S57_111010_11001110 (eAs p.acts) p.acts.length i (eMs p.acts[i].mvs) p.acts[i].mvs.length j (bv ws))=some r:=by
  have _ := hX
  have ha:=hp.acts
  obtain⟨q1,q2,q3⟩:=hp.act p.acts[i] (List.getElem_mem hi)
  intro k
  induction k with
  | zero =>
   intro j ws hj hw h
   refine L_of ?_
   rw[e57_111010_11001110,condD,if_neg (by omega),i64_succ i (by omega),← h,show p.acts[i].mvs.drop j=[] from List.drop_eq_nil_iff.2 (by omega),movsT,List.append_nil]
  | succ k ih =>
   intro j ws hj hw h
   have h1:j<p.acts[i].mvs.length:=by omega
   have h64:=all6 (hr.mvs _ (List.getElem_mem hi) _ (List.getElem_mem h1))
   have hm:=mov_len p.acts[i].mvs[j] (hr.mvs _ (List.getElem_mem hi) _ (List.getElem_mem h1))
   have c0:∀ m:Mv,((eM m).cell 0).toInt=m.to.x:=fun _=>rfl
   have c1:∀ m:Mv,((eM m).cell 1).toInt=m.to.y:=fun _=>rfl
   have c2:∀ m:Mv,((eM m).cell 2).toInt=m.to.z:=fun _=>rfl
   have c3:∀ m:Mv,((eM m).cell 3).toInt=m.wait:=fun _=>rfl
   have c4:∀ m:Mv,((eM m).cell 4).toInt=m.fl:=fun _=>rfl
   have c5:∀ m:Mv,((eM m).cell 5).toInt=m.rise:=fun _=>rfl
   refine L_of ?_
   rw[e57_111010_11001110]
   simp only[Int.toNat_natCast,eMs_get _ h1,eMs_length,c0,c1,c2,c3,c4,c5,lineB_mov,etaM,h64,cond_true,ba_size,strPVs_ba,bv_append,bv_length]
   rw[condD,if_pos (by omega),condA,condD,if_pos (by omega),condD,if_pos (by omega),condP (by omega) rfl,i64_succ j (by omega)]
   refine ih (j+1) _ (by omega) (by simp only[List.length_append];omega) ?_
   rw[List.drop_eq_getElem_cons h1,movsT]at h
   rw[List.append_assoc]
   exact h
theorem l57c (p : Pg) (hp : Small p) (hr : Rng p) : ∀ (k i : Nat) (ws : List UInt8),i + k = p.acts.length → ws.length ≤ 1000000 + 100000 * i →
    L tab (run tab X) 57 [] [.lp [1,1,1,0,1,0]] (S57_111010_s1 (eAs p.acts) p.acts.length i (bv ws))=some ([.p (.str (ba (ws++actsT (p.acts.drop i))))],[]):=by
  have ha:=hp.acts
  intro k
  induction k with
  | zero =>
   intro i ws hi hw
   refine L_of ?_
   rw[e57_111010_s1,condD,if_neg (by omega),condP (by simp;omega) rfl,condT (bv_all ws) rfl,bytesOf_bv,show p.acts.drop i=[] from List.drop_eq_nil_iff.2 (by omega),actsT,List.append_nil]
  | succ k ih =>
   intro i ws hi hw
   have h1:i<p.acts.length:=by omega
   obtain⟨q1,q2,q3⟩:=hp.act p.acts[i] (List.getElem_mem h1)
   have hal:=act_len p.acts[i] q3
   have h64:=all1 q3
   have e1:((eA p.acts[i]).cell 0).toStr=ba p.acts[i].name:=rfl
   have e2:((eA p.acts[i]).cell 1).toInt=p.acts[i].len:=rfl
   have e3:((eA p.acts[i]).cell 2).toList=eMs p.acts[i].mvs:=rfl
   have e4:spJ [actW,p.acts[i].name,Lib.itoa p.acts[i].len]++[10]=actT p.acts[i]:=rfl
   refine L_of ?_
   rw[e57_111010_s1]
   simp only[Int.toNat_natCast,eAs_get _ h1,eAs_length,e1,e2,e3,lineB_act,h64,cond_true,ba_size,strPVs_ba,bv_append,bv_length,e4,eMs_length]
   rw[condD,if_pos (by omega),condA,condD,if_pos (by omega),condD,if_pos (by omega),condP (by omega) rfl]
   refine(show L tab (run tab X) 57 [] [.lp [1,1,1,0,1,0],.lp [1,1,0,0,1,1,1,0]] (S57_111010_11001110 (eAs p.acts) p.acts.length i (eMs p.acts[i].mvs) p.acts[i].mvs.length (0:Nat) (bv (ws++actT p.acts[i])))=_ from ?_)
   refine l57m X hX p hp hr i h1 _ p.acts[i].mvs.length 0 _ (by omega) (by simp only[List.length_append];omega) ?_
   have hml:∀ l:List Mv,(∀ m∈l,(movT m).length≤200)→(movsT l).length≤200*l.length:=by
    intro l
    induction l with
    | nil=>intro _;simp[movsT]
    | cons m l ihl =>
     intro hh
     have h1:=ihl fun x hx=>hh x (by simp[hx])
     have h2:=hh m (by simp)
     simp only[movsT,List.length_append,List.length_cons];omega
   have hm2:=hml p.acts[i].mvs fun m hm=>mov_len m (hr.mvs _ (List.getElem_mem h1) m hm)
   rw[List.drop_zero,ih (i+1) _ (by omega) (by simp only[List.length_append];omega),List.drop_eq_getElem_cons h1,actsT]
   simp only[List.append_assoc]
theorem l57a (p : Pg) (hp : Small p) (hr : Rng p) (hh : p.homes.length = p.names.length) : ∀ (k i : Nat) (ws : List UInt8),i + k = p.names.length → ws.length ≤ 2000 * i →
    L tab (run tab X) 57 [] [.lp [1,1,0,1,0]] (S57_11010_s1 (eN p.names) p.names.length i (eN p.names) (encL p.homes) (eAs p.acts) (bv ws))=some ([.p (.str (ba (ws++airsT (p.names.drop i) (p.homes.drop i)++actsT p.acts)))],[]):=by
  have hn:=hp.names
  intro k
  induction k with
  | zero =>
   intro i ws hi hw
   refine L_of ?_
   rw[e57_11010_s1,condD,if_neg (by omega),show p.names.drop i=[] from List.drop_eq_nil_iff.2 (by omega),eAs_length]
   have:=l57c X hX p hp hr p.acts.length 0 ws (by omega) (by omega)
   refine(show L tab (run tab X) 57 [] [.lp [1,1,1,0,1,0]] (S57_111010_s1 (eAs p.acts) p.acts.length (0:Nat) (bv ws))=_ from this).trans ?_
   simp[airsT]
  | succ k ih =>
   intro i ws hi hw
   have h1:i<p.names.length:=by omega
   have h2:i<p.homes.length:=by omega
   have hg:=hp.name p.names[i] (List.getElem_mem h1)
   have h64:=all3 (hr.homes _ (List.getElem_mem h2))
   have hal:=air_len p.names[i] p.homes[i] (hr.homes _ (List.getElem_mem h2))
   have e1:((PV.str (ba p.names[i])).cell 0).toStr=ba p.names[i]:=rfl
   have e3:∀ v:V3,((encV v).cell 0).toInt=v.x:=fun _=>rfl
   have e4:∀ v:V3,((encV v).cell 1).toInt=v.y:=fun _=>rfl
   have e5:∀ v:V3,((encV v).cell 2).toInt=v.z:=fun _=>rfl
   refine L_of ?_
   rw[e57_11010_s1]
   simp only[Int.toNat_natCast,eN_get _ h1,encL_at _ h2,eN_length,encL_length,e1,e3,e4,e5,lineB_air,etaV,h64,cond_true,ba_size,strPVs_ba,bv_append,bv_length]
   rw[condD,if_pos (by omega),condA,condD,if_pos (by omega),condD,if_pos (by omega),condA,condD,if_pos (by omega),condD,if_pos (by omega),condP (by omega) rfl]
   simp only[condA,condD]
   rw[if_pos (by omega),if_pos (by omega),if_pos (by omega),if_pos (by omega),i64_succ i (by omega),ih (i+1) _ (by omega) (by simp only[List.length_append];omega),List.drop_eq_getElem_cons h1,List.drop_eq_getElem_cons h2,airsT]
   simp only[List.append_assoc]
theorem c57 (p:Pg) (hp:Small p) (hr:Rng p) (hn0:1≤p.names.length) (hh:p.homes.length=p.names.length):run tab X 57 [.p (eG p)] []=some ([.p (.str (ba (textP p)))],[]):=by
 have hn:=hp.names
 have h1:0<p.names.length:=by omega
 have h2:0<p.homes.length:=by omega
 have hg:=hp.name p.names[0] (List.getElem_mem h1)
 have h64:=all3 (hr.homes _ (List.getElem_mem h2))
 have hal:=air_len p.names[0] p.homes[0] (hr.homes _ (List.getElem_mem h2))
 have e1:((PV.str (ba p.names[0])).cell 0).toStr=ba p.names[0]:=rfl
 have e3:∀ v:V3,((encV v).cell 0).toInt=v.x:=fun _=>rfl
 have e4:∀ v:V3,((encV v).cell 1).toInt=v.y:=fun _=>rfl
 have e5:∀ v:V3,((encV v).cell 2).toInt=v.z:=fun _=>rfl
 refine run_of (hX _ rfl) ?_
 rw[eG,e57,eN_length]
 refine L_of ?_
 rw[e57_11010]
 simp only[Int.toNat_zero,eN_get _ h1,encL_at _ h2,eN_length,encL_length,e1,e3,e4,e5,lineB_air,etaV,h64,cond_true,ba_size,strPVs_ba]
 rw[condD,if_pos (by omega),condA,condD,if_pos (by omega),condD,if_pos (by omega),condA,condD,if_pos (by omega),condD,if_pos (by omega)]
 simp only[condA,condD]
 rw[if_pos (by omega),if_pos (by omega),if_pos (by omega),if_pos (by omega),if_pos (by omega)]
 have:=l57a X hX p hp hr hh (p.names.length-1) 1 (airT p.names[0] p.homes[0]) (by omega) (by omega)
 refine(show L tab (run tab X) 57 [] [.lp [1,1,0,1,0]] (S57_11010_s1 (eN p.names) p.names.length (1:Nat) (eN p.names) (encL p.homes) (eAs p.acts) (bv (airT p.names[0] p.homes[0])))=_ from this).trans ?_
 have e6:p.names=p.names[0]::p.names.drop 1:=by rw[← List.drop_eq_getElem_cons h1,List.drop_zero]
 have e7:p.homes=p.homes[0]::p.homes.drop 1:=by rw[← List.drop_eq_getElem_cons h2,List.drop_zero]
 have e8:airT p.names[0] p.homes[0]++airsT (p.names.drop 1) (p.homes.drop 1)=airsT p.names p.homes:=by
  conv=>rhs;rw[e6,e7,airsT]
 rw[e8]
 rfl
theorem c34 (hC:Clones X) (p:Pg) (hp:Small p) (hr:Rng p) (hv:validP p=true):run tab X 34 [.p (eG p)] []=some ([.p (.str (ba (textP p))),.p (.int .i64 0)],[]):=by
 have h10:=c10 X hX hC p hp
 obtain⟨⟨h1,h2,h3⟩,_⟩:=valid_of hv
 have h57:=c57 X hX p hp hr h1 h3
 rw[eG]at h10 h57
 refine run_of (hX _ rfl) ?_
 rw[eG,e34,h10,h57,hv]
 rfl
end
end Go.Skm.Prg
