import Derived.Test.YtfmoopdnamdobaaDoorP10
import Derived.Lib.ItoaLen
namespace Go.Skm.Prg
open Go Go.Skm
def bv (l:List UInt8):List PV:=l.map fun x=>.int .u8 ((x.toNat:Nat):Int)
theorem CU (l:List UInt8):uX (ba l)=bv l:=rfl
theorem Hf (x y:List UInt8):bv x++bv y=bv (x++y):=by simp[bv]
@[simp] theorem Hg (x:List UInt8):(bv x).length=x.length:=by simp[bv]
theorem ac5 (x:UInt8):UInt8.ofNat (PV.int .u8 ((x.toNat:Nat):Int)).toInt.toNat=x:=by simp[PV.toInt]
theorem UF (l:List UInt8):bytesOf (bv l)=ba l:=by
 unfold bytesOf ba bv
 rw[List.map_map]
 congr 2
 exact(List.map_congr_left fun x _=>ac5 x).trans (List.map_id _)
theorem ac6 (l:List UInt8):(bv l).all PV.isByte=true:=by
 rw[List.all_eq_true]
 intro x hx
 obtain⟨u,_,rfl⟩:=List.mem_map.1 hx
 have:=u.toNat_lt
 simp only[PV.isByte,qBa,qDa]
 omega
def i64 (n:Int):Prop:=-9223372036854775808≤n∧n≤9223372036854775807
structure Rng (p:Pg):Prop where
 homes:∀ v∈p.homes,i64 v.x∧i64 v.y∧i64 v.z
 iw:∀ a∈p.acts,∀ m∈a.iw,(i64 m.to.x∧i64 m.to.y∧i64 m.to.z)∧i64 m.wait∧i64 m.fl∧i64 m.rise
def ac7:List UInt8:=[97,105,114,99,114,97,102,116]
def Zd:List UInt8:=[97,99,116]
def ac8:List UInt8:=[109,111,118,101]
def P7 (g:List UInt8) (v:V3):List UInt8:=Dz [ac7,g,Lib.itoa v.x,Lib.itoa v.y,Lib.itoa v.z]++[10]
def Xr (a:Ac):List UInt8:=Dz [Zd,a.name,Lib.itoa a.len]++[10]
def UG (m:Mv):List UInt8:=Dz [ac8,Lib.itoa m.to.x,Lib.itoa m.to.y,Lib.itoa m.to.z,Lib.itoa m.wait,Lib.itoa m.fl,Lib.itoa m.rise]++[10]
def FM:List (List UInt8)→List V3→List UInt8
 | g::gs,v::vs=>P7 g v++FM gs vs
 | _,_=>[]
def FN:List Mv→List UInt8
 | []=>[]
 | m::r=>UG m++FN r
def KH:List Ac→List UInt8
 | []=>[]
 | a::r=>Xr a++FN a.iw++KH r
def VY (p:Pg):List UInt8:=FM p.names p.homes++KH p.acts
theorem aeO (v:V3):(⟨v.x,v.y,v.z⟩:V3)=v:=rfl
theorem ajS (m:Mv):(⟨⟨m.to.x,m.to.y,m.to.z⟩,m.wait,m.fl,m.rise⟩:Mv)=m:=rfl
theorem OC (g:List UInt8) (x y z:Int):rD [.str ⟨#[97,105,114,99,114,97,102,116]⟩,.str (ba g)] [.int .i64 x,.int .i64 y,.int .i64 z]=ba (P7 g ⟨x,y,z⟩):=by
 simp[rD,ByteArray.toList_eq,P7,ac7,ba,PV.toStr,PV.toInt]
theorem Xt (g:List UInt8) (n:Int):rD [.str ⟨#[97,99,116]⟩,.str (ba g)] [.int .i64 n]=ba (Dz [Zd,g,Lib.itoa n]++[10]):=by
 simp[rD,ByteArray.toList_eq,Zd,ba,PV.toStr,PV.toInt]
theorem Xu (x y z a b c:Int):rD [.str ⟨#[109,111,118,101]⟩] [.int .i64 x,.int .i64 y,.int .i64 z,.int .i64 a,.int .i64 b,.int .i64 c]=ba (UG ⟨⟨x,y,z⟩,a,b,c⟩):=by
 simp[rD,ByteArray.toList_eq,UG,ac8,ba,PV.toStr,PV.toInt]
theorem all1 {n:Int} (h:i64 n):([.int .i64 n]:List PV).all PV.Ag=true:=by
 simp only[List.all_cons,List.all_nil,PV.Ag,Bool.and_true,qBa,qDa];exact h
theorem aeP {x y z:Int} (h:i64 x∧i64 y∧i64 z):([.int .i64 x,.int .i64 y,.int .i64 z]:List PV).all PV.Ag=true:=by
 simp only[List.all_cons,List.all_nil,PV.Ag,Bool.and_true,qBa,qDa];exact h
theorem ajT {x y z a b c:Int} (h:(i64 x∧i64 y∧i64 z)∧i64 a∧i64 b∧i64 c):([.int .i64 x,.int .i64 y,.int .i64 z,.int .i64 a,.int .i64 b,.int .i64 c]:List PV).all PV.Ag=true:=by
 obtain⟨⟨h1,h2,h3⟩,h4,h5,h6⟩:=h
 simp only[List.all_cons,List.all_nil,PV.Ag,Bool.and_true,qBa,qDa];exact⟨h1,h2,h3,h4,h5,h6⟩
theorem VZ (g:List UInt8) (v:V3) (hv:i64 v.x∧i64 v.y∧i64 v.z):(P7 g v).length≤g.length+90:=by
 have h1:=Lib.itoa_length_le v.x hv.1.1 hv.1.2
 have h2:=Lib.itoa_length_le v.y hv.2.1.1 hv.2.1.2
 have h3:=Lib.itoa_length_le v.z hv.2.2.1 hv.2.2.2
 simp only[P7,Dz,ac7,List.length_append,List.length_cons,List.length_nil];omega
theorem aa9 (a:Ac) (h:i64 a.len):(Xr a).length≤a.name.length+90:=by
 have h1:=Lib.itoa_length_le a.len h.1 h.2
 simp only[Xr,Dz,Zd,List.length_append,List.length_cons,List.length_nil];omega
theorem V4 (m:Mv) (hv:(i64 m.to.x∧i64 m.to.y∧i64 m.to.z)∧i64 m.wait∧i64 m.fl∧i64 m.rise):(UG m).length≤200:=by
 obtain⟨⟨q1,q2,q3⟩,q4,q5,q6⟩:=hv
 have h1:=Lib.itoa_length_le m.to.x q1.1 q1.2
 have h2:=Lib.itoa_length_le m.to.y q2.1 q2.2
 have h3:=Lib.itoa_length_le m.to.z q3.1 q3.2
 have h4:=Lib.itoa_length_le m.wait q4.1 q4.2
 have h5:=Lib.itoa_length_le m.fl q5.1 q5.2
 have h6:=Lib.itoa_length_le m.rise q6.1 q6.2
 simp only[UG,Dz,ac8,List.length_append,List.length_cons,List.length_nil];omega
section
variable (X:Ext) (hX:Mine X)
include hX
theorem ajU (p : Pg) (hp : Small p) (hr : Rng p) (i : Nat) (hi : i < p.acts.length) (r : List AV × List aJ) : ∀ (k j : Nat) (ws : List UInt8),j + k = p.acts[i].iw.length → ws.length ≤ 100000000 + 200 * j →
    L tab (run tab X) 57 [] [.lp [1,1,1,0,1,0]] (lH (fM p.acts) p.acts.length ((i+1:Nat):Int) (bv (ws++FN (p.acts[i].iw.drop j))))=some r →
    L tab (run tab X) 57 [] [.lp [1,1,1,0,1,0],.lp [1,1,0,0,1,1,1,0]] (iW (fM p.acts) p.acts.length i (qw p.acts[i].iw) p.acts[i].iw.length j (bv ws))=some r:=by
  have _ := hX
  have ha:=hp.acts
  obtain⟨q1,q2,q3⟩:=hp.act p.acts[i] (List.getElem_mem hi)
  intro k
  induction k with
  | zero =>
   intro j ws hj hw h
   refine dP ?_
   rw[sS,aG,if_neg (by omega),bW i (by omega),← h,show p.acts[i].iw.drop j=[] from List.drop_eq_nil_iff.2 (by omega),FN,List.append_nil]
  | succ k ih =>
   intro j ws hj hw h
   have h1:j<p.acts[i].iw.length:=by omega
   have h64:=ajT (hr.iw _ (List.getElem_mem hi) _ (List.getElem_mem h1))
   have hm:=V4 p.acts[i].iw[j] (hr.iw _ (List.getElem_mem hi) _ (List.getElem_mem h1))
   have c0:∀ m:Mv,((eM m).cell 0).toInt=m.to.x:=fun _=>rfl
   have c1:∀ m:Mv,((eM m).cell 1).toInt=m.to.y:=fun _=>rfl
   have c2:∀ m:Mv,((eM m).cell 2).toInt=m.to.z:=fun _=>rfl
   have c3:∀ m:Mv,((eM m).cell 3).toInt=m.wait:=fun _=>rfl
   have c4:∀ m:Mv,((eM m).cell 4).toInt=m.fl:=fun _=>rfl
   have c5:∀ m:Mv,((eM m).cell 5).toInt=m.rise:=fun _=>rfl
   refine dP ?_
   rw[sS]
   simp only[Int.toNat_natCast,tu _ h1,cu,c0,c1,c2,c3,c4,c5,Xu,ajS,h64,cond_true,oh,CU,Hf,Hg]
   rw[aG,if_pos (by omega),dh,aG,if_pos (by omega),aG,if_pos (by omega),RZ (by omega) rfl,bW j (by omega)]
   refine ih (j+1) _ (by omega) (by simp only[List.length_append];omega) ?_
   rw[qLc h1,FN]at h
   rw[List.append_assoc]
   exact h
theorem ajV (p : Pg) (hp : Small p) (hr : Rng p) : ∀ (k i : Nat) (ws : List UInt8),i + k = p.acts.length → ws.length ≤ 1000000 + 100000 * i →
    L tab (run tab X) 57 [] [.lp [1,1,1,0,1,0]] (lH (fM p.acts) p.acts.length i (bv ws))=some ([.p (.str (ba (ws++KH (p.acts.drop i))))],[]):=by
  have ha:=hp.acts
  intro k
  induction k with
  | zero =>
   intro i ws hi hw
   refine dP ?_
   rw[DK,aG,if_neg (by omega),RZ (by simp;omega) rfl,OD (ac6 ws) rfl,UF,show p.acts.drop i=[] from List.drop_eq_nil_iff.2 (by omega),KH,List.append_nil]
  | succ k ih =>
   intro i ws hi hw
   have h1:i<p.acts.length:=by omega
   obtain⟨q1,q2,q3⟩:=hp.act p.acts[i] (List.getElem_mem h1)
   have hal:=aa9 p.acts[i] q3
   have h64:=all1 q3
   have e1:((eA p.acts[i]).cell 0).toStr=ba p.acts[i].name:=rfl
   have e2:((eA p.acts[i]).cell 1).toInt=p.acts[i].len:=rfl
   have e3:((eA p.acts[i]).cell 2).toList=qw p.acts[i].iw:=rfl
   have e4:Dz [Zd,p.acts[i].name,Lib.itoa p.acts[i].len]++[10]=Xr p.acts[i]:=rfl
   refine dP ?_
   rw[DK]
   simp only[Int.toNat_natCast,kU _ h1,aW,e1,e2,e3,Xt,h64,cond_true,oh,CU,Hf,Hg,e4,cu]
   rw[aG,if_pos (by omega),dh,aG,if_pos (by omega),aG,if_pos (by omega),RZ (by omega) rfl]
   refine(show L tab (run tab X) 57 [] [.lp [1,1,1,0,1,0],.lp [1,1,0,0,1,1,1,0]] (iW (fM p.acts) p.acts.length i (qw p.acts[i].iw) p.acts[i].iw.length (0:Nat) (bv (ws++Xr p.acts[i])))=_ from ?_)
   refine ajU X hX p hp hr i h1 _ p.acts[i].iw.length 0 _ (by omega) (by simp only[List.length_append];omega) ?_
   have hml:∀ l:List Mv,(∀ m∈l,(UG m).length≤200)→(FN l).length≤200*l.length:=by
    intro l
    induction l with
    | nil=>intro _;simp[FN]
    | cons m l ihl =>
     intro hh
     have h1:=ihl fun x hx=>hh x (by simp[hx])
     have h2:=hh m (by simp)
     simp only[FN,List.length_append,List.length_cons];omega
   have hm2:=hml p.acts[i].iw fun m hm=>V4 m (hr.iw _ (List.getElem_mem h1) m hm)
   rw[List.drop_zero,ih (i+1) _ (by omega) (by simp only[List.length_append];omega),qLc h1,KH]
   simp only[List.append_assoc]
theorem ajW (p : Pg) (hp : Small p) (hr : Rng p) (hh : p.homes.length = p.names.length) : ∀ (k i : Nat) (ws : List UInt8),i + k = p.names.length → ws.length ≤ 2000 * i →
    L tab (run tab X) 57 [] [.lp [1,1,0,1,0]] (pO (eN p.names) p.names.length i (eN p.names) (bF p.homes) (fM p.acts) (bv ws))=some ([.p (.str (ba (ws++FM (p.names.drop i) (p.homes.drop i)++KH p.acts)))],[]):=by
  have hn:=hp.names
  intro k
  induction k with
  | zero =>
   intro i ws hi hw
   refine dP ?_
   rw[FC,aG,if_neg (by omega),show p.names.drop i=[] from List.drop_eq_nil_iff.2 (by omega),aW]
   have:=ajV X hX p hp hr p.acts.length 0 ws (by omega) (by omega)
   refine(show L tab (run tab X) 57 [] [.lp [1,1,1,0,1,0]] (lH (fM p.acts) p.acts.length (0:Nat) (bv ws))=_ from this).trans ?_
   simp[FM]
  | succ k ih =>
   intro i ws hi hw
   have h1:i<p.names.length:=by omega
   have h2:i<p.homes.length:=by omega
   have hg:=hp.name p.names[i] (List.getElem_mem h1)
   have h64:=aeP (hr.homes _ (List.getElem_mem h2))
   have hal:=VZ p.names[i] p.homes[i] (hr.homes _ (List.getElem_mem h2))
   have e1:((PV.str (ba p.names[i])).cell 0).toStr=ba p.names[i]:=rfl
   have e3:∀ v:V3,((aT v).cell 0).toInt=v.x:=fun _=>rfl
   have e4:∀ v:V3,((aT v).cell 1).toInt=v.y:=fun _=>rfl
   have e5:∀ v:V3,((aT v).cell 2).toInt=v.z:=fun _=>rfl
   refine dP ?_
   rw[FC]
   simp only[Int.toNat_natCast,rY _ h1,lQ _ h2,cZ,aY,e1,e3,e4,e5,OC,aeO,h64,cond_true,oh,CU,Hf,Hg]
   rw[aG,if_pos (by omega),dh,aG,if_pos (by omega),aG,if_pos (by omega),dh,aG,if_pos (by omega),aG,if_pos (by omega),RZ (by omega) rfl]
   simp only[dh,aG]
   rw[if_pos (by omega),if_pos (by omega),if_pos (by omega),if_pos (by omega),bW i (by omega),ih (i+1) _ (by omega) (by simp only[List.length_append];omega),qLc h1,qLc h2,FM]
   simp only[List.append_assoc]
theorem c57 (p:Pg) (hp:Small p) (hr:Rng p) (hn0:1≤p.names.length) (hh:p.homes.length=p.names.length):run tab X 57 [.p (eG p)] []=some ([.p (.str (ba (VY p)))],[]):=by
 have hn:=hp.names
 have h1:0<p.names.length:=by omega
 have h2:0<p.homes.length:=by omega
 have hg:=hp.name p.names[0] (List.getElem_mem h1)
 have h64:=aeP (hr.homes _ (List.getElem_mem h2))
 have hal:=VZ p.names[0] p.homes[0] (hr.homes _ (List.getElem_mem h2))
 have e1:((PV.str (ba p.names[0])).cell 0).toStr=ba p.names[0]:=rfl
 have e3:∀ v:V3,((aT v).cell 0).toInt=v.x:=fun _=>rfl
 have e4:∀ v:V3,((aT v).cell 1).toInt=v.y:=fun _=>rfl
 have e5:∀ v:V3,((aT v).cell 2).toInt=v.z:=fun _=>rfl
 refine bn (hX _ rfl) ?_
 rw[eG,e57,cZ]
 refine dP ?_
 rw[Xh]
 simp only[Int.toNat_zero,rY _ h1,lQ _ h2,cZ,aY,e1,e3,e4,e5,OC,aeO,h64,cond_true,oh,CU]
 rw[aG,if_pos (by omega),dh,aG,if_pos (by omega),aG,if_pos (by omega),dh,aG,if_pos (by omega),aG,if_pos (by omega)]
 simp only[dh,aG]
 rw[if_pos (by omega),if_pos (by omega),if_pos (by omega),if_pos (by omega),if_pos (by omega)]
 have:=ajW X hX p hp hr hh (p.names.length-1) 1 (P7 p.names[0] p.homes[0]) (by omega) (by omega)
 refine(show L tab (run tab X) 57 [] [.lp [1,1,0,1,0]] (pO (eN p.names) p.names.length (1:Nat) (eN p.names) (bF p.homes) (fM p.acts) (bv (P7 p.names[0] p.homes[0])))=_ from this).trans ?_
 have e6:p.names=p.names[0]::p.names.drop 1:=by rw[← qLc h1,List.drop_zero]
 have e7:p.homes=p.homes[0]::p.homes.drop 1:=by rw[← qLc h2,List.drop_zero]
 have e8:P7 p.names[0] p.homes[0]++FM (p.names.drop 1) (p.homes.drop 1)=FM p.names p.homes:=by
  conv=>rhs;rw[e6,e7,FM]
 rw[e8]
 rfl
theorem c34 (hC:jI X) (p:Pg) (hp:Small p) (hr:Rng p) (hv:dV p=true):run tab X 34 [.p (eG p)] []=some ([.p (.str (ba (VY p))),.p (.int .i64 0)],[]):=by
 have h10:=c10 X hX hC p hp
 obtain⟨⟨h1,h2,h3⟩,_⟩:=yt hv
 have h57:=c57 X hX p hp hr h1 h3
 rw[eG]at h10 h57
 refine bn (hX _ rfl) ?_
 rw[eG,e34,h10,h57,hv]
 rfl
end
end Go.Skm.Prg
