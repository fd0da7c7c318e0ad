import Derived.Test.YtfmoopdnamdobaaDoorP6
namespace Go.Skm.Prg
open Go Go.Skm
def frB {α:Type} [DecidableEq α] (x:α):List α→Bool
 | []=>true
 | y::l=>!decide (y=x)&&frB x l
theorem Sr {α:Type} [DecidableEq α] (x:α) (l:List α) {k:Nat} (h:k<l.length):frB x (l.drop k)=(!decide (l[k]=x)&&frB x (l.drop (k+1))):=by
 rw[qLc h,frB]
theorem CV {α:Type} [DecidableEq α] (x:α):∀ l:List α,frB x l=true↔x ∉ l
 | []=>by simp[frB]
 | y::l=>by
  rw[frB,qBa,CV x l]
  simp only[qBb,decide_eq_false_iff_not,List.mem_cons,not_or]
  exact⟨fun ⟨h1,h2⟩=>⟨fun e=>h1 e.symm,h2⟩,fun ⟨h1,h2⟩=>⟨fun e=>h1 e.symm,h2⟩⟩
theorem Rh (a : V3) (m : Mv) (t len : Int) (ha : pt a = true) (h1 : 1 ≤ len) (h0 : 0 ≤ t) (h2 : t + len ≤ 3600000) :
    mg a m t len=if lY a m len=true then(qY a m t len,0) else([],2):=by
  have e1:JC len=true:=kW.2 ⟨by omega,by omega⟩
  have e2:JC t=true:=kW.2 ⟨by omega,by omega⟩
  have e3:JC (t+len)=true:=kW.2 ⟨by omega,by omega⟩
  rw[mg,ha,e1,e2,e3,decide_eq_true h1]
  simp
theorem Xx {a:V3} {m:Mv} {len:Int} (h:lY a m len=true):pt m.to=true:=by
 unfold lY at h
 rw[qBa]at h
 exact h.1
theorem Zk (t len:Int):∀ (vs:List V3) (ms:List Mv) (cs cs':List Int),vs.length=cs.length→ms.length=cs.length→cntF t len vs ms cs=some cs'→∀ w∈ms.map Mv.to,pt w=true
 | [],ms,[],cs',_,h2,_=>by
  have:ms=[]:=List.length_eq_zero_iff.1 (by simpa using h2)
  subst this;simp
 | v::vs,m::ms,c::cs,cs',h1,h2,h=>by
  simp only[cntF]at h
  split at h
  · next h0 =>
    split at h
    · obtain⟨w,hw,rfl⟩:=Option.map_eq_some_iff.1 h
      simp only[List.length_cons,Nat.add_right_cancel_iff]at h1 h2
      have ih:=Zk t len vs ms cs w h1 h2 hw
      intro x hx
      simp only[List.map_cons,List.mem_cons]at hx
      rcases hx with rfl | hx
      · unfold mg at h0
        split at h0
        · next h5 =>
          simp only[qBa]at h5
          exact Xx h5.2.2.2.2
        · simp at h0
      · exact ih x hx
    · cases h
  · cases h
 | [],_,_::_,_,h,_,_=>by simp at h
 | _::_,[],_::_,_,_,h,_=>by simp at h
 | _::_,_,[],_,h,_,_=>by simp at h
theorem Sv:∀ (gs:List (List UInt8)) (vs:List V3) (a:List (List UInt8)) (b:List V3),vs.length=gs.length→Bo a b gs vs=true→∀ v∈vs,pt v=true
 | [],[],_,_,_,_=>by simp
 | g::gs,v::vs,a,b,h,hc=>by
  simp only[Bo,qBa]at hc
  simp only[List.length_cons,Nat.add_right_cancel_iff]at h
  intro w hw
  rcases List.mem_cons.1 hw with rfl | hw
  · exact hc.2.2.1
  · exact Sv gs vs _ _ h hc.2.2.2.2 w hw
 | [],_::_,_,_,h,_=>by simp at h
 | _::_,[],_,_,h,_=>by simp at h
section
variable (X:Ext) (hX:Mine X)
include hX
theorem akh (p : Pg) (hp : Small p) (hh : p.homes.length = p.names.length) (i : Nat) (hi : i < p.names.length) (r : List AV × List aJ) : ∀ (k j : Nat),j + k = i →
    (if (frB p.names[i] ((p.names.take i).drop j) && frB (p.homes[i]'(by omega)) ((p.homes.take i).drop j)) = true then
        L tab (run tab X) 15 [] [.lp [1,1,1,0,1,0]] (qx p.names.length ((i+1:Nat):Int) (eN p.names) (bF p.homes) (fM p.acts)) else some ([.p (.bool false)],[]))=some r →
    L tab (run tab X) 15 [] [.lp [1,1,1,0,1,0],.lp [1,0,0,1,1,0]] (jB p.names.length i j (eN p.names) (bF p.homes) (fM p.acts))=some r:=by
  have _ := hX
  have hn:=hp.names
  have hi2:i<p.homes.length:=by omega
  intro k
  induction k with
  | zero =>
   intro j hj hr
   refine dP ?_
   rw[← hr]
   rw[wI,aG,if_neg (by omega),bW i (by omega),show (p.names.take i).drop j=[] from List.drop_eq_nil_iff.2 (by simp;omega),show (p.homes.take i).drop j=[] from List.drop_eq_nil_iff.2 (by simp;omega)]
   simp[frB]
  | succ k ih =>
   intro j hj hr
   have g1:j<p.names.length:=by omega
   have g2:j<p.homes.length:=by omega
   have e1:∀ x:List UInt8,(PV.str (ba x)).cell 0=.str (ba x):=fun _=>rfl
   have e2:∀ x:List UInt8,(PV.str (ba x)).toStr=ba x:=fun _=>rfl
   have e3:∀ v:V3,((aT v).cell 0).toInt=v.x:=fun _=>rfl
   have e4:∀ v:V3,((aT v).cell 1).toInt=v.y:=fun _=>rfl
   have e5:∀ v:V3,((aT v).cell 2).toInt=v.z:=fun _=>rfl
   have t1:j<(p.names.take i).length:=by simp;omega
   have t2:j<(p.homes.take i).length:=by simp;omega
   rw[Sr _ _ t1,Sr _ _ t2,List.getElem_take,List.getElem_take]at hr
   refine dP ?_
   rw[← hr,wI]
   simp only[dh,aG,Int.toNat_natCast,cZ,aY,rY p.names g1,rY p.names hi,lQ p.homes g2,lQ p.homes hi2,e1,e2,e3,e4,e5]
   rw[if_pos (by omega),if_pos (by omega),if_pos (by omega),if_pos (by omega),if_pos (by omega)]
   have hb:((ba p.names[j]).toList==(ba p.names[i]).toList)=decide (p.names[j]=p.names[i]):=by
    rw[Ew];simp only[xq]
   rw[hb,aG]
   by_cases q1:p.names[j]=p.names[i]
   · rw[if_pos q1];simp[q1]
   · rw[if_neg q1,if_pos (by omega),if_pos (by omega),if_pos (by omega),if_pos (by omega)]
     have hv:=@eqV p.homes[j] p.homes[i]
     simp only[← dh]
     rw[hv,aG]
     by_cases q2:p.homes[j]=p.homes[i]
     · rw[if_pos q2];simp[q2]
     · rw[if_neg q2,bW j (by omega),hr]
       refine ih (j+1) (by omega) ?_
       rw[← hr]
       simp[q1,q2]
theorem aki (p : Pg) (hp : Small p) (hh : p.homes.length = p.names.length) (r : List AV × List aJ) : ∀ (k i : Nat),i + k = p.names.length →
    (if Bo (p.names.take i) (p.homes.take i) (p.names.drop i) (p.homes.drop i) = true then
        L tab (run tab X) 15 [] [.lp [1,1,1,1,1,1,0,1,0]] (jJ p.names.length 0 0 p.names.length 0 (eN p.names) (bF p.homes) (fM p.acts) (encI (List.replicate p.names.length 0))) else some ([.p (.bool false)],[]))=some r →
    L tab (run tab X) 15 [] [.lp [1,1,1,0,1,0]] (qx p.names.length i (eN p.names) (bF p.homes) (fM p.acts))=some r:=by
  have hn:=hp.names
  intro k
  induction k with
  | zero =>
   intro i hi hr
   refine dP ?_
   rw[← hr]
   rw[J8]
   simp only[aG,dh,Int.toNat_natCast,Sm]
   rw[if_neg (by omega),show p.names.drop i=[] from List.drop_eq_nil_iff.2 (by omega),if_pos (by omega),if_pos (by omega),if_pos (by omega)]
   simp[Bo]
  | succ k ih =>
   intro i hi hr
   have h1:i<p.names.length:=by omega
   have h2:i<p.homes.length:=by omega
   have hg:=hp.name p.names[i] (List.getElem_mem h1)
   have e1:(PV.str (ba p.names[i])).cell 0=.str (ba p.names[i]):=rfl
   have e2:(PV.str (ba p.names[i])).toStr=ba p.names[i]:=rfl
   have e3:((aT p.homes[i]).cell 0).toInt=p.homes[i].x:=rfl
   have e4:((aT p.homes[i]).cell 1).toInt=p.homes[i].y:=rfl
   have e5:((aT p.homes[i]).cell 2).toInt=p.homes[i].z:=rfl
   have hc:=c42 X hX p.homes[i]
   rw[aT]at hc
   rw[qLc h1,qLc h2,Bo]at hr
   refine dP ?_
   rw[← hr,J8]
   simp only[dh,aG,Int.toNat_natCast,cZ,aY,rY p.names h1,lQ p.homes h2,e1,e2,e3,e4,e5]
   rw[if_pos (by omega),if_pos (by omega),if_pos (by omega),c41 X hX _ (wM hg)]
   simp only[Option.bind_some,List.headD_cons,gV,aI,iR]
   cases ho:okN p.names[i] with
   | false=>simp
   | true =>
    rw[ho]at hr
    simp only[cond_true,Bool.true_and]
    rw[if_pos (by omega),if_pos (by omega),hc]
    simp only[Option.bind_some,List.headD_cons,gV,aI]
    cases ht:pt p.homes[i] with
    | false=>simp
    | true =>
     rw[ht]at hr
     simp only[cond_true,Bool.true_and]
     simp only[Bool.true_and]at hr
     rw[hr]
     refine(show L tab (run tab X) 15 [] [.lp [1,1,1,0,1,0],.lp [1,0,0,1,1,0]] (jB p.names.length i (0:Nat) (eN p.names) (bF p.homes) (fM p.acts))=_ from akh X hX p hp hh i h1 r i 0 (by omega) ?_)
     simp only[List.drop_zero]
     by_cases q1:p.names[i]∈p.names.take i
     · rw[← hr,if_neg (by rw[qBa,CV];exact fun h=>h.1 q1)];simp[q1]
     · by_cases q2:p.homes[i]∈p.homes.take i
       · rw[← hr,if_neg (by rw[qBa,CV,CV];exact fun h=>h.2 q2)];simp[q2]
       · rw[(CV _ _).2 q1,(CV _ _).2 q2,Bool.and_self,if_pos rfl]
         refine ih (i+1) (by omega) ?_
         rw[← hr,List.take_succ_eq_append_getElem h1,List.take_succ_eq_append_getElem h2]
         simp[q1,q2]
theorem akj (p : Pg) (n : Nat) (hn : n ≤ 64) (t len : Int) (h0 : 0 ≤ t) (hl : 1 ≤ len) (ht : t + len ≤ 3600000) (a' : Int) (ab0 : ByteArray) (fs : List V3) (ns : List Mv) (hfs : fs.length = n) (hns : ns.length = n) (hpt : ∀ v ∈ fs,pt v = true) (r : List AV × List aJ) : ∀ (k i : Nat) (cs done : List Int),i + k = n → done.length = i → cs.length = k → (∀ c ∈ cs,0 ≤ c ∧ c ≤ 256) →
    ((cntF t len (fs.drop i) (ns.drop i) cs).elim (some ([.p (.bool false)],[])) fun cs'=>L tab (run tab X) 15 [] [.lp [1,1,1,1,1,1,0,1,0]] (jJ n (IntKind.i64.wrap (t+len)) 0 n (IntKind.i64.wrap (a'+1)) (eN p.names) (bF p.homes) (fM p.acts) (encI (done++cs'))))=some r →
    L tab (run tab X) 15 [] [.lp [1,1,1,1,1,1,0,1,0],.lp [1,0,0,1,1,1,0,1,0]] (gu n t 0 n a' 0 n i (eN p.names) (bF p.homes) (fM p.acts) (encI (done++cs)) ab0 len (qw ns) (bF fs))=some r:=by
  intro k
  induction k with
  | zero =>
   intro i cs done hi hd hc h4 hr
   have:cs=[]:=List.length_eq_zero_iff.1 hc
   subst this
   refine dP ?_
   rw[← hr,oL,aG,if_neg (by omega),show fs.drop i=[] from List.drop_eq_nil_iff.2 (by omega),cntF]
   · simp
   · simp
  | succ k ih =>
   intro i cs done hi hd hc h4 hr
   cases cs with
   | nil=>simp at hc
   | cons c cs =>
    subst hd
    have g1:done.length<fs.length:=by omega
    have g2:done.length<ns.length:=by omega
    simp only[List.length_cons,Nat.add_right_cancel_iff]at hc
    have hcc:=h4 c (by simp)
    have hpa:=hpt fs[done.length] (List.getElem_mem g1)
    have hdl:done.length<(done++c::cs).length:=by simp
    have hgc:(done++c::cs)[done.length]=c:=by simp
    have e1:∀ x:Int,(PV.int .i64 x).cell 0=.int .i64 x:=fun _=>rfl
    have hw:∀ x:Nat,x≤5→IntKind.i64.wrap (c+(x:Int))=c+(x:Int):=fun x hx=>wrap_eq (by omega) (by omega)
    have hset:∀ y:Int,(encI (done++c::cs)).set done.length (.int .i64 y)=encI ((done++[y])++cs):=fun y=>by
     rw[Sl,Wh]
    have hg2:∀ x:Int,(encI ((done++[x])++cs)).getD done.length .nil=.int .i64 x:=fun x=>by
     rw[JD _ (by simp)];simp
    have hg1:(encI (done++c::cs)).getD done.length .nil=.int .i64 c:=by
     rw[JD _ hdl,hgc]
    have ev:(PV.agg [.int .i64 ((aT fs[done.length]).cell 0).toInt,.int .i64 ((aT fs[done.length]).cell 1).toInt,.int .i64 ((aT fs[done.length]).cell 2).toInt])=aT fs[done.length]:=rfl
    have em:(PV.agg [.int .i64 ((eM ns[done.length]).cell 0).toInt,.int .i64 ((eM ns[done.length]).cell 1).toInt,.int .i64 ((eM ns[done.length]).cell 2).toInt,.int .i64 ((eM ns[done.length]).cell 3).toInt,.int .i64 ((eM ns[done.length]).cell 4).toInt,.int .i64 ((eM ns[done.length]).cell 5).toInt])=eM ns[done.length]:=rfl
    rw[qLc g1,qLc g2,cntF,Rh _ _ _ _ hpa hl h0 ht]at hr
    refine dP ?_
    rw[← hr,oL]
    simp only[dh,aG,Int.toNat_natCast,Nat.zero_add,lQ fs g1,tu ns g2,ev,em,cu,hg1,e1,toInt_int]
    rw[if_pos (by omega),if_pos (by omega),if_pos (by omega),if_pos (by omega),if_pos (by omega),c43 X hX _ _ _ hpa]
    simp only[Option.bind_some,List.headD_cons,gV,aI,iR]
    cases hv:lY fs[done.length] ns[done.length] len with
    | false=>simp
    | true =>
     have hpl:=Fp fs[done.length] ns[done.length] t len
     simp only[cond_true,if_true]
     rw[if_pos (by omega),if_pos (by omega),if_pos (by omega),if_pos (by omega),if_pos (by omega),if_pos (by omega),c44 X hX _ _ _ _ hpa hv h0 ht]
     simp only[Option.bind_some,List.headD_cons,aV,jw,hw _ hpl,hset,hg2,e1,toInt_int]
     rw[if_pos (by omega),if_pos (by omega),if_pos (by omega),if_pos (by omega)]
     by_cases hb:c+((qY fs[done.length] ns[done.length] t len).length:Int)≤256
     · rw[if_neg (by omega),if_pos hb,bW _ (by omega)]
       have:=ih (done.length+1) cs (done++[c+((qY fs[done.length] ns[done.length] t len).length:Int)]) (by omega) (by simp) (by omega) (fun x hx=>h4 x (by simp[hx]))
       rw[hv,if_pos rfl,if_pos rfl,if_pos hb]at hr
       rw[hr]
       refine this ?_
       rw[← hr]
       cases cntF t len (fs.drop (done.length+1)) (ns.drop (done.length+1)) cs with
       | none=>rfl
       | some w=>simp
     · rw[if_pos (by omega),if_neg hb]
       rfl
theorem l15 (p : Pg) (hp : Small p) : ∀ (k i : Nat) (t : Int) (many : List Int),i + k = p.acts.length → many.length = p.names.length → p.names.length ≤ 64 → (iV p i).length = p.names.length → (∀ v ∈ iV p i,pt v = true) → (∀ c ∈ many,0 ≤ c ∧ c ≤ 256) → 0 ≤ t → t ≤ 3600000 →
    L tab (run tab X) 15 [] [.lp [1,1,1,1,1,1,0,1,0]] (jJ p.names.length t 0 p.names.length i (eN p.names) (bF p.homes) (fM p.acts) (encI many)) =
     some ([.p (.bool (Ad p.names.length t (iV p i) many (p.acts.drop i)))],[]):=by
  have ha:=hp.acts
  intro k
  induction k with
  | zero =>
   intro i t many hi _ _ _ _ _ _ _
   refine dP ?_
   rw[DJ,aG,aW,if_neg (by omega),show p.acts.drop i=[] from List.drop_eq_nil_iff.2 (by omega)]
   simp[Ad]
  | succ k ih =>
   intro i t many hi hm hn hf hpt hc ht0 ht1
   have hlt:i<p.acts.length:=by omega
   obtain⟨q1,q2,q3⟩:=hp.act p.acts[i] (List.getElem_mem hlt)
   have e1:((eA p.acts[i]).cell 0).toStr=ba p.acts[i].name:=rfl
   have e2:((eA p.acts[i]).cell 1).toInt=p.acts[i].len:=rfl
   have e3:((eA p.acts[i]).cell 2).toList=qw p.acts[i].iw:=rfl
   have h17:=c17 X hX p hp i (by omega)
   rw[eG]at h17
   refine dP ?_
   rw[DJ,qLc hlt,Ad]
   simp only[dh,aG,pU,Int.toNat_natCast,aW,kU p.acts hlt,e1,e2,e3,cu]
   rw[if_pos (by omega),if_pos (by omega),if_pos (by omega),c41 X hX _ (wM q2)]
   simp only[Option.bind_some,List.headD_cons,gV,aI,iR]
   cases okN p.acts[i].name with
   | false=>simp
   | true =>
    simp only[cond_true,Bool.true_and]
    by_cases h1:1≤p.acts[i].len
    · rw[if_neg (by omega),wrap_eq (by omega) (by omega)]
      by_cases h2:p.acts[i].len≤3600000-t
      · rw[if_neg (by omega)]
        by_cases h3:p.acts[i].iw.length=p.names.length
        · rw[if_pos (by omega),h17]
          simp only[Option.bind_some,List.headD_cons,aV,aY]
          have hfs:iV p (i+1)=p.acts[i].iw.map Mv.to:=by rw[iV,oJ p hlt]
          rw[hf]
          refine(show L tab (run tab X) 15 [] [.lp [1,1,1,1,1,1,0,1,0],.lp [1,0,0,1,1,1,0,1,0]] (gu p.names.length t 0 p.names.length i 0 p.names.length (0:Nat) (eN p.names) (bF p.homes) (fM p.acts) (encI ([]++many)) (ba p.acts[i].name) p.acts[i].len (qw p.acts[i].iw) (bF (iV p i)))=_ from akj X hX p p.names.length hn t p.acts[i].len ht0 h1 (by omega) i (ba p.acts[i].name) (iV p i) p.acts[i].iw hf h3 hpt _ p.names.length 0 many [] (by omega) rfl hm hc ?_)
          simp only[List.drop_zero]
          cases hq:cntF t p.acts[i].len (iV p i) p.acts[i].iw many with
          | none=>simp[h1,h2]
          | some w =>
           have hwl:=Jz _ _ _ _ _ _ (by omega) (by omega) hq
           have hwc:=cnt_le _ _ _ _ _ _ hc hq
           have hwp:=Zk _ _ _ _ _ _ (by omega) (by omega) hq
           simp only[List.nil_append,Option.elim_some]
           rw[wrap_eq (x:=t+p.acts[i].len) (by omega) (by omega),bW i (by omega),ih (i+1) (t+p.acts[i].len) w (by omega) (by omega) hn (by rw[hfs];simp;omega) (by rw[hfs];exact hwp) hwc (by omega) (by omega),hfs]
           simp[h1,h2,h3]
        · rw[if_neg (by omega)]
          simp[h3]
      · rw[if_pos (by omega)]
        simp[h2]
    · rw[if_pos (by omega)]
      simp[h1]
theorem c15 (p:Pg) (hp:Small p):run tab X 15 [.p (eG p)] []=some ([.p (.bool (dV p))],[]):=by
 refine bn (hX _ rfl) ?_
 have hn:=hp.names
 have hh:=hp.homes
 rw[eG,e15]
 simp only[aG,pU,cZ,aY,aW]
 rw[dV,DN]
 by_cases h1:1≤p.names.length
 · rw[if_neg (by omega)]
   by_cases h2:p.names.length≤64
   · rw[if_neg (by omega)]
     by_cases h3:p.homes.length=p.names.length
     · rw[if_pos (by omega)]
       by_cases h4:p.acts.length≤60
       · rw[if_neg (by omega)]
         refine(show L tab (run tab X) 15 [] [.lp [1,1,1,0,1,0]] (qx p.names.length (0:Nat) (eN p.names) (bF p.homes) (fM p.acts))=_ from aki X hX p hp h3 _ p.names.length 0 (by omega) ?_)
         simp only[List.take_zero,List.drop_zero]
         cases hc:Bo [] [] p.names p.homes with
         | false=>simp
         | true =>
          rw[if_pos rfl]
          have hpt:=Sv _ _ _ _ (by omega) hc
          have:=l15 X hX p hp p.acts.length 0 0 (List.replicate p.names.length 0) (by omega) (by simp) h2 h3 hpt (by intro c hc;rw[List.mem_replicate]at hc;omega) (by omega) (by omega)
          refine(show L tab (run tab X) 15 [] [.lp [1,1,1,1,1,1,0,1,0]] (jJ p.names.length 0 0 p.names.length (0:Nat) (eN p.names) (bF p.homes) (fM p.acts) (encI (List.replicate p.names.length 0)))=_ from this).trans ?_
          simp[h1,h2,h3,h4,iV]
       · rw[if_pos (by omega)]
         simp[h4]
     · rw[if_neg (by omega)]
       simp[h3]
   · rw[if_pos (by omega)]
     simp[h2]
 · rw[if_pos (by omega)]
   simp[h1]
end
end Go.Skm.Prg
